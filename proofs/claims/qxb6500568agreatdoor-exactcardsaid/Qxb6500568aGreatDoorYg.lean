import Derived.Test.Qxb6500568aGreatDoorYf
/- The interpreter's stacks: do, push, pop. -/
namespace Go.Proofs.Qxb6500568aGreatDoor
open Ieee
set_option linter.unusedVariables false
set_option linter.unusedSimpArgs false
set_option linter.unusedSectionVars false

section
variable {G : Arena} {root : Nat} {np : Value} {tb rb : Nat} {nv : Value} {w w' w1 u1 u2 : World} {ow ow' : Nat → Nat} {β τ : List Nat} {m : Nat} {s : IS} {F : Nat → Prop} {i : Nat} {x : ITh} {b : Nat} {tv vv v' : Value}

theorem rws_tk {α : Type} {enc : α → List Value} {k : Nat} (hk : ∀ x, (enc x).length = k) : ∀ (L : List α) (n : Nat), rws enc (L.take n) = (rws enc L).take (n * k)
  | [], n => by simp [rws]
  | x :: L, 0 => by simp [rws]
  | x :: L, n + 1 => by
    have ih := rws_tk hk L n
    simp only [rws, List.take_succ_cons, List.flatMap_cons] at ih ⊢
    rw [ih, show (n + 1) * k = (enc x).length + n * k by rw [hk, Nat.add_mul]; omega, List.take_length_add_append]
/-- a stack cut. -/
theorem OwT.dropR {α : Type} {enc : α → List Value} {tag e k cap : Nat} {a : Option Addr} {L : List α} (hk : ∀ x, (enc x).length = k) (h : OwT w ow tag (.slice a L.length cap) e k L.length (rws enc L.reverse)) (j : Nat) : OwT w ow tag (.slice a (L.length - j) cap) e k (L.drop j).length (rws enc (L.drop j).reverse) := by
  have := h.take (m := L.length - j) (by omega)
  rw [List.length_drop, List.reverse_drop, rws_tk hk]
  exact this
/-- an element of a stack; j counts from the top. -/
theorem OwT.atR {α : Type} {enc : α → List Value} {tag e k : Nat} {v : Value} {L : List α} (hk : ∀ x, (enc x).length = k) (h : OwT w ow tag v e k L.length (rws enc L.reverse)) {j : Nat} {x : α} (hj : L[j]? = some x) :
    ∃ g cap l, v = .slice (some ⟨g, 0, none⟩) L.length cap ∧ Blk w.heap g l e ∧ L.length ≤ cap ∧ l.length = cap * k ∧ ow g = tag ∧ (l.drop (0 + (L.length - 1 - j) * k)).take k = enc x := by
  have hl := (List.getElem?_eq_some_iff.1 hj).1
  have hx : L.reverse[L.length - 1 - j]? = some x := by rw [List.getElem?_reverse (by omega), show L.length - 1 - (L.length - 1 - j) = j by omega]; exact hj
  rw [← List.length_reverse] at h
  obtain ⟨g, cap, l, h1, h2, h3, h4, h5, h6, h7⟩ := h.at hk hx
  rw [List.length_reverse] at h1 h3
  exact ⟨g, cap, l, h1, h2, h3, h4, h6, h7 _ _ hx⟩
/-- the thread's structure put anew. -/
theorem RM.thr (h : RM G root np tb rb nv w ow β τ m s) (hb : τ[s.cur]? = some b) (hT : ThV w ow s.cur β s.th b tv vv) {y : ITh} {tv' vv' : Value} {m' : Nat} (ht : OwT w ow (80 + s.cur) tv' 161 4 y.tasks.length (rws (tsc β) y.tasks.reverse)) (hv : OwT w ow (85 + s.cur) vv' 119 3 y.vals.length (rws pvc y.vals.reverse))
    (f : Fram (one b) w w') (hB : Blk w'.heap b [i64c y.st, i64c y.fn, i64c y.depth, tv', vv'] 126) (hte : ∀ t ∈ y.tasks, t.e ≤ s.envs.length) (hm : m ≤ m') (hl : y.tasks.length ≤ m' ∧ y.vals.length ≤ m') : RP G root np tb rb nv w ow β τ m' (s.setT y) w' := by
  have hc := h.cl
  have h5 := h.t5
  have hf : Fram (tg ow (thT s.cur)) w w' := f.mono (fun c _ q => by have q : c = b := q; show thT s.cur (ow c); rw [q]; exact .inl hT.t)
  refine ⟨ow, Xt.refl _ _, thT_fram (by omega) hf, h.turnT hf (Xt.refl _ _) (h.dfN f) hb ⟨hB, hT.t, ht.far f (fun c q _ z => ?_) (Xt.refl _ _), hv.far f (fun c q _ z => ?_) (Xt.refl _ _)⟩ hte hm hl⟩
  · have z : c = b := z
    rw [z, hT.t] at q; omega
  · have z : c = b := z
    rw [z, hT.t] at q; omega
/-- a task is pushed. -/
theorem RM.tsk (h : RM G root np tb rb nv w ow β τ m s) (hb : τ[s.cur]? = some b) (hT : ThV w ow s.cur β s.th b tv vv) {t : Tk} (hF : Fram none' w w1) (hon : Own u1.heap v' 161 4 (s.th.tasks.length + 1) (rws (tsc β) s.th.tasks.reverse ++ tsc β t)) (G1 : Fram (own1 tv) w1 u1) (hnb : nob tv v' w1)
    (f : Fram (one b) u1 u2) (hB : Blk u2.heap b [i64c s.th.st, i64c s.th.fn, i64c s.th.depth, v', vv] 126) (hte : t.e ≤ s.envs.length) : RP G root np tb rb nv w ow β τ (m + 1) (s.setT { s.th with tasks := t :: s.th.tasks }) u2 := by
  have hc := h.cl
  have h5 := h.t5
  have hw1 := hF.size
  have hu1 := G1.size
  have hu2 := f.size
  have hbl := hT.k.lt
  have hmem : s.th ∈ s.ths := List.mem_of_getElem? (th_at hc)
  have hf : Fram (tg ow (thT s.cur)) w u2 := ((hF.wide (G := tg ow (thT s.cur))).trans' G1 (fun c hc q => .inr (.inl (hT.ts.t c q)))).trans' f (fun c _ q => by have q : c = b := q; show thT s.cur (ow c); rw [q]; exact .inl hT.t)
  have hE : Xt w ow (cut66 u2 (nw ow w1.heap.size (80 + s.cur))) := fun c hc => by rw [cut66_xt _ _ c (by omega)]; exact nw_old (by omega)
  have hbne : ∀ c, c = b → nw ow w1.heap.size (80 + s.cur) c = 75 + s.cur := fun c q => by rw [q, nw_old (by omega)]; exact hT.t
  refine ⟨cut66 u2 (nw ow w1.heap.size (80 + s.cur)), hE, thT_fram (by omega) hf, h.turnT hf hE (cut66_df _ _) hb (tv := v') (vv := vv) ⟨hB, by rw [hE b hbl]; exact hT.t, ?_, ?_⟩ (fun z hz => ?_) (Nat.le_succ _) ⟨?_, ?_⟩⟩
  · have h1 := (hT.ts.far hF (fun _ _ _ q => q) (Xt.refl _ _)).grow hon hnb hu1
    have h2 := (h1.far f (fun c q _ z => by rw [hbne c z] at q; omega) (Xt.refl _ _)).cut
    show OwT u2 _ (80 + s.cur) v' 161 4 (t :: s.th.tasks).length (rws (tsc β) (t :: s.th.tasks).reverse)
    rw [List.length_cons, List.reverse_cons, rws_app, rws_one]
    exact h2
  · have h1 := hT.vs.far hF (fun _ _ _ q => q) (Xt.refl _ _)
    have h2 := h1.far G1 (fun c q _ z => by have := hT.ts.t c z; omega) (Xt.nw (s := w1.heap.size) (t := 80 + s.cur) (Nat.le_refl _))
    exact (h2.far f (fun c q _ z => by rw [hbne c z] at q; omega) (Xt.refl _ _)).cut
  · rcases List.mem_cons.1 hz with rfl | hz
    · exact hte
    · exact h.te _ hmem z hz
  · have := (h.bd _ hmem).1; show s.th.tasks.length + 1 ≤ m + 1; omega
  · have := (h.bd _ hmem).2; show s.th.vals.length ≤ m + 1; omega
/-- a value is pushed. -/
theorem RM.val (h : RM G root np tb rb nv w ow β τ m s) (hb : τ[s.cur]? = some b) (hT : ThV w ow s.cur β s.th b tv vv) {v : PV} (hF : Fram none' w w1) (hon : Own u1.heap v' 119 3 (s.th.vals.length + 1) (rws pvc s.th.vals.reverse ++ pvc v)) (G1 : Fram (own1 vv) w1 u1) (hnb : nob vv v' w1)
    (f : Fram (one b) u1 u2) (hB : Blk u2.heap b [i64c s.th.st, i64c s.th.fn, i64c s.th.depth, tv, v'] 126) : RP G root np tb rb nv w ow β τ (m + 1) (ipush v s) u2 := by
  have hc := h.cl
  have h5 := h.t5
  have hw1 := hF.size
  have hu1 := G1.size
  have hu2 := f.size
  have hbl := hT.k.lt
  have hmem : s.th ∈ s.ths := List.mem_of_getElem? (th_at hc)
  have hf : Fram (tg ow (thT s.cur)) w u2 := ((hF.wide (G := tg ow (thT s.cur))).trans' G1 (fun c hc q => .inr (.inr (hT.vs.t c q)))).trans' f (fun c _ q => by have q : c = b := q; show thT s.cur (ow c); rw [q]; exact .inl hT.t)
  have hE : Xt w ow (cut66 u2 (nw ow w1.heap.size (85 + s.cur))) := fun c hc => by rw [cut66_xt _ _ c (by omega)]; exact nw_old (by omega)
  have hbne : ∀ c, c = b → nw ow w1.heap.size (85 + s.cur) c = 75 + s.cur := fun c q => by rw [q, nw_old (by omega)]; exact hT.t
  refine ⟨cut66 u2 (nw ow w1.heap.size (85 + s.cur)), hE, thT_fram (by omega) hf, h.turnT hf hE (cut66_df _ _) hb (tv := tv) (vv := v') ⟨hB, by rw [hE b hbl]; exact hT.t, ?_, ?_⟩ (fun z hz => h.te _ hmem z hz) (Nat.le_succ _) ⟨?_, ?_⟩⟩
  · have h1 := hT.ts.far hF (fun _ _ _ q => q) (Xt.refl _ _)
    have h2 := h1.far G1 (fun c q _ z => by have := hT.vs.t c z; omega) (Xt.nw (s := w1.heap.size) (t := 85 + s.cur) (Nat.le_refl _))
    exact (h2.far f (fun c q _ z => by rw [hbne c z] at q; omega) (Xt.refl _ _)).cut
  · have h1 := (hT.vs.far hF (fun _ _ _ q => q) (Xt.refl _ _)).grow hon hnb hu1
    have h2 := (h1.far f (fun c q _ z => by rw [hbne c z] at q; omega) (Xt.refl _ _)).cut
    show OwT u2 _ (85 + s.cur) v' 119 3 (v :: s.th.vals).length (rws pvc (v :: s.th.vals).reverse)
    rw [List.length_cons, List.reverse_cons, rws_app, rws_one]
    exact h2
  · have := (h.bd _ hmem).1; show s.th.tasks.length ≤ m + 1; omega
  · have := (h.bd _ hmem).2; show s.th.vals.length + 1 ≤ m + 1; omega
end

set_option maxHeartbeats 4000000 in
theorem do55 {G : Arena} {root : Nat} {np : Value} {tb rb : Nat} {nv : Value} {w : World} {ow : Nat → Nat} {β τ : List Nat} {m : Nat} {s : IS} (hR : RM G root np tb rb nv w ow β τ m s) {k n x e : Nat} {o : Option Addr} (he : EP β e o) (hm : m ≤ 20000) :
    Ret Tryz.prog 55 [ptr rb, i64c k, i64c n, i64c x, .pointer o] w (fun r w' => r = .tuple #[] ∧ RP G root np tb rb nv w ow β τ (m + 1) (ido k n x e s) w') := by
  obtain ⟨cv, a0, a1, a2, a3, a4, g, cap, l, b, tv, vv, hX, hO, hl, hcap, hb, hT, hg⟩ := hR.open
  obtain ⟨rfl, he⟩ := he
  have hc := hR.cl
  have hF : Fram none' w w := Fram.refl _ _
  have hB := hT.k
  have hbd := (hR.bd _ (List.mem_of_getElem? (th_at hc))).1
  unfold rnc at hX
  obtain ⟨ta, tc, rfl⟩ := hT.ts.form
  refine ret_of Tryz.func55 rfl Tryz.ntmps55 rfl ?_
  refine c_seq (fun K1 hK1 => ?_)
  refine c_pi [(0, false), (1, false), (2, false), (3, false), (4, false), (5, false), (6, false), (7, false), (8, false), (9, false), (10, false)] (SameH _) mixed (by kernel_rfl) rfl (by kernel_rfl) (po_then (po_bp)) (sameH_now _ _) ?_ -- region 0 compm.go:128
  refine pi_ro rfl (fun w hS => ro_move rfl) ?_
  refine pi_ro rfl (fun w hS => ro_nilCheck rfl) ?_
  refine pi_ro rfl (fun w hS => ro_fieldAddr (k := 5) rfl fo_112_5) ?_
  refine pi_ro rfl (fun w hS => ro_loadB rfl sc_109 (Blk.of_heap (by assumption) hS) rfl) ?_
  refine pi_ro rfl (fun w hS => ro_move rfl) ?_
  refine pi_ro rfl (fun w hS => ro_nilCheck rfl) ?_
  refine pi_ro rfl (fun w hS => ro_fieldAddr (k := 12) rfl fo_112_8) ?_
  refine pi_ro rfl (fun w hS => ro_loadB rfl sc_3 (Blk.of_heap (by assumption) hS) rfl) ?_
  refine pi_ro rfl (fun w hS => ro_indexAddr (et := 123) (k := 1) rfl rfl se_109 rfl (by omega)) ?_
  refine pi_ro rfl (fun w hS => ro_loadB rfl sc_123 (Blk.of_heap hO hS) (hl)) ?_
  refine pi_ro rfl (fun w hS => ro_assign rfl) ?_
  refine pi_nil (x_then (hK1 _ _ ?_))
  clear hK1 K1
  refine c_reg ?_ -- region 1 compm.go:129
  refine wl (ro_move rfl) ?_
  refine wl (ro_move rfl) ?_
  refine wl (ro_nilCheck rfl) ?_
  refine wl (ro_fieldAddr (k := 3) rfl fo_126_3) ?_
  refine wl (ro_loadB rfl sc_124 (by assumption) rfl) ?_
  refine wl (ro_move rfl) ?_
  refine wl (ro_move rfl) ?_
  refine wl (ro_move rfl) ?_
  refine wl (ro_move rfl) ?_
  refine wl (ro_build rfl bld_161_0_1_2_3) ?_
  refine wl_bsapp (t := 124) (et := 161) (k := 4) (m := s.th.tasks.length) (cs := tsc β ⟨k, n, x, e⟩) rfl rfl rfl rfl se_124 zx_161 by_161 rfl rfl rfl (tsc_one _ _) (hT.ts.o.fram hF.thenDrew (fun _ _ q => q)) (by omega) (by omega) ?_
  intro v' u1 hon G1 hnb
  replace hB := G1.blkF hB (fun q => by have := hT.ts.t _ q; have := hT.t; omega)
  obtain ⟨va, vc, rfl⟩ := hon.form
  skip
  refine wl (ro_nilCheck rfl) ?_
  refine wl (ro_fieldAddr (k := 3) rfl fo_126_3) ?_
  refine wl_put rfl rfl rfl sz_124 hB ((by simp)) (rfl) (fun w1 hB F1 => ?_)
  have hF3 := (F1)
  refine wl_nil ?_
  refine bp_end Tryz.results55 rfl ?_
  exact ⟨rfl, hR.tsk hb hT hF.thenDrew hon G1 hnb hF3 hB (by rw [← hR.el]; exact he)⟩

set_option maxHeartbeats 4000000 in
theorem push67 {G : Arena} {root : Nat} {np : Value} {tb rb : Nat} {nv : Value} {w : World} {ow : Nat → Nat} {β τ : List Nat} {m : Nat} {s : IS} (hR : RM G root np tb rb nv w ow β τ m s) {v : PV} (hm : m ≤ 20000) :
    Ret Tryz.prog 67 [ptr rb, pv v] w (fun r w' => r = .tuple #[] ∧ RP G root np tb rb nv w ow β τ (m + 1) (ipush v s) w') := by
  obtain ⟨cv, a0, a1, a2, a3, a4, g, cap, l, b, tv, vv, hX, hO, hl, hcap, hb, hT, hg⟩ := hR.open
  have hc := hR.cl
  have hF : Fram none' w w := Fram.refl _ _
  have hB := hT.k
  have hbd := (hR.bd _ (List.mem_of_getElem? (th_at hc))).2
  unfold rnc at hX
  obtain ⟨ta, tc, rfl⟩ := hT.vs.form
  have hbs := hB.lt
  have hob : ∀ c, own1 (.slice ta s.th.vals.length tc) c → c ≠ b ∧ c < w.heap.size := fun c q => ⟨fun z => by have := hT.vs.t _ q; rw [z, hT.t] at this; omega, hT.vs.o.lt q⟩
  refine ret_of Tryz.func67 rfl Tryz.ntmps67 rfl ?_
  refine c_seq (fun K1 hK1 => ?_)
  refine c_reg ?_ -- region 0 compm.go:103
  refine wl_box (cs := (pvc v)) rfl rfl (fun b3 w1 hbb3 h3 F1 => ?_)
  have hnerbb3 : rb < b3 := Nat.lt_of_lt_of_le hX.lt hbb3
  have hnegb3 : g < b3 := Nat.lt_of_lt_of_le hO.lt hbb3
  have hbsb3 := Nat.le_trans hF.size hbb3
  have hnebb3 : b < b3 := Nat.lt_of_lt_of_le hB.lt hbb3
  replace hX := F1.blkN hX
  replace hO := F1.blkN hO
  replace hF := hF.thenDrew.thenN F1
  replace hB := F1.blkN hB
  refine wl_nil (x_then (hK1 _ _ ?_))
  clear hK1 K1
  refine forget [(0, _), (3, _)] ⟨rfl, rfl, trivial⟩ (fun e => ?_)
  refine c_seq (fun K2 hK2 => ?_)
  refine c_pi [(0, false), (1, false), (2, false), (3, false), (4, false), (5, false), (6, false), (7, false), (8, false), (9, false), (10, false)] (SameH _) mixed (by kernel_rfl) rfl (by kernel_rfl) (po_then (po_bp)) (sameH_now _ _) ?_ -- region 1 compm.go:104
  refine pi_ro rfl (fun w hS => ro_move rfl) ?_
  refine pi_ro rfl (fun w hS => ro_nilCheck rfl) ?_
  refine pi_ro rfl (fun w hS => ro_fieldAddr (k := 5) rfl fo_112_5) ?_
  refine pi_ro rfl (fun w hS => ro_loadB rfl sc_109 (Blk.of_heap (by assumption) hS) rfl) ?_
  refine pi_ro rfl (fun w hS => ro_move rfl) ?_
  refine pi_ro rfl (fun w hS => ro_nilCheck rfl) ?_
  refine pi_ro rfl (fun w hS => ro_fieldAddr (k := 12) rfl fo_112_8) ?_
  refine pi_ro rfl (fun w hS => ro_loadB rfl sc_3 (Blk.of_heap (by assumption) hS) rfl) ?_
  refine pi_ro rfl (fun w hS => ro_indexAddr (et := 123) (k := 1) rfl rfl se_109 rfl (by omega)) ?_
  refine pi_ro rfl (fun w hS => ro_loadB rfl sc_123 (Blk.of_heap hO hS) (hl)) ?_
  refine pi_ro rfl (fun w hS => ro_assign rfl) ?_
  refine pi_nil (x_then (hK2 _ _ ?_))
  clear hK2 K2
  refine c_piL 10 [(0, false), (1, false), (2, false), (3, false), (4, false), (5, false), (6, true), (7, true), (8, false), (9, false)] (fun u => Blk u.heap b [i64c s.th.st, i64c s.th.fn, i64c s.th.depth, tv, .slice ta s.th.vals.length tc] 126 ∧ Blk u.heap b3 (pvc v) 119) mixed (by kernel_rfl) rfl (by kernel_rfl) (po_bp) (⟨hB, h3⟩) ?_ -- region 2 compm.go:105
  refine ql_ro rfl (fun w hS => ro_move rfl) ?_
  refine ql_ro rfl (fun w hS => ro_move rfl) ?_
  refine ql_ro rfl (fun w hS => ro_nilCheck rfl) ?_
  refine ql_ro rfl (fun w hS => ro_fieldAddr (k := 4) rfl fo_126_4) ?_
  refine ql_ro rfl (fun w hS => ro_loadB rfl sc_83 (hS.1) rfl) ?_
  refine ql_ro rfl (fun w hS => ro_loadAggB rfl ag_119 (hS.2) (rfl) (rfl)) ?_
  refine ql_bsapp (t := 83) (et := 119) (k := 3) (m := s.th.vals.length) (cs := pvc v) rfl rfl rfl rfl rfl rfl se_83 zx_119 by_119 rfl rfl rfl (pvc_one _) (hT.vs.o.fram hF.thenDrew (fun _ _ h => h)) (by omega) (by omega) (fun w1 F ↦ ⟨F.blkN hB, F.blkN h3⟩) (fun w1 F ↦ ⟨F.blkF hB (fun q ↦ (hob _ q).1 rfl), F.blkF h3 (fun q ↦ by have := hob _ q; omega)⟩) ?_
  intro v' u1 hon G1 hnb
  replace hB := G1.blkF hB (fun q => (hob _ q).1 rfl)
  obtain ⟨va, vc, rfl⟩ := hon.form
  skip
  refine ql_ro rfl (fun w hS => ro_nilCheck rfl) ?_
  refine ql_ro rfl (fun w hS => ro_fieldAddr (k := 4) rfl fo_126_4) ?_
  refine ql_put rfl rfl rfl rfl sz_83 hB ((by simp)) (rfl) (fun w2 hB F2 => ?_)
  have hF3 := (F2)
  refine ?_
  refine bp_end Tryz.results67 rfl ?_
  exact ⟨rfl, hR.val hb hT hF.thenDrew hon G1 hnb hF3 hB⟩

end Go.Proofs.Qxb6500568aGreatDoor
