import Derived.Test.Qxb6500568aGreatDoorZj
/- The compiler: each; fresh. -/
namespace Go.Proofs.Qxb6500568aGreatDoor
open Ieee
set_option linter.unusedVariables false
set_option linter.unusedSimpArgs false
set_option linter.unusedSectionVars false

/-- the nodes of a list, from n on. -/
def NxL (G : Arena) : Nat → List Nat → Prop
  | n, [] => n = 0
  | n, m :: l => n = m ∧ n ≠ 0 ∧ n < G.length ∧ NxL G (nd G n).Nx l
section
variable {E : ZEnv} {w w' : World} {ow ow' : Nat → Nat} {O : List Nat} {S : Fns} {f : ZAct} {q A : List ZAct} {R : List ZRow} {z : ZSl}
/-- what a walk over a list reads. -/
structure RdN (E : ZEnv) (w : World) (j : Nat) : Prop where
  ex : ∃ l lc g cap ln, Blk w.heap E.gb l 199 ∧ l[j * 11 + 0]? = some (ptr E.cb) ∧ Blk w.heap E.cb lc 94 ∧ lc[0 + 2]? = some (.slice (some ⟨g, 0, none⟩) E.G.length cap) ∧ Blk w.heap g ln 148 ∧ ∀ n, n < E.G.length → ∃ p, (ln.drop (0 + n * 8)).take 8 = ndc (nd E.G n, p)
theorem CM.rdn (h : CM E w ow O S (f :: q)) (hG : 0 < E.G.length) : RdN E w f.j := by
  obtain ⟨R_, z_, op⟩ := h.open (f := f) (by simp)
  obtain ⟨g, cap, ln, e, hN, -, -, hrow⟩ := h.nodes hG
  exact ⟨_, _, g, cap, ln, op.B, op.row 0 (by decide), h.cb, by rw [e]; rfl, hN, hrow⟩
set_option maxHeartbeats 4000000 in
theorem each138 {j : Nat} {v : Value} {ns : List Nat} {n : Nat} (I : Nat → World → Prop) (hn : NxL E.G n ns) (h0 : I 0 w) (hd : ∀ i u, I i u → RdN E u j) (hv : ∀ i m u, ns[i]? = some m → I i u → CallsV Tryz.prog v [i64c m] u (fun r u' => I (i + 1) u')) (hlen : ns.length ≤ 100000) :
    Ret Tryz.prog 138 [fptr E j, i64c n, v] w (fun r w' => r = i64c ns.length ∧ I ns.length w') := by
  refine ret_of Tryz.func138 rfl Tryz.ntmps138 rfl ?_
  refine c_seq (fun K1 hK1 => ?_)
  refine c_reg ?_ -- region 0 fn.go:67
  refine wl (ro_assign rfl) ?_
  refine wl_nil (x_then (hK1 _ _ ?_))
  clear hK1 K1
  refine forget [(0, _), (1, _), (2, _)] ⟨rfl, rfl, rfl, trivial⟩ (fun e => ?_)
  refine c_seq (fun K2 hK2 => ?_)
  refine c_reg ?_ -- region 1 fn.go:68
  refine wl (ro_assign rfl) ?_
  refine wl_nil (x_then (hK2 _ _ ?_))
  clear hK2 K2
  refine forget [(0, _), (1, _), (2, _), (7, _)] ⟨rfl, rfl, rfl, rfl, trivial⟩ (fun e => ?_)
  refine c_seq (fun K3 hK3 => ?_)
  refine c_block ?_
  -- loop@r2: live slots [0, 1, 2, 7]
  refine c_loopG (fun m a u => ∃ i n' l, m = l.length ∧ i + l.length = ns.length ∧ ns.drop i = l ∧ NxL E.G n' l ∧ I i u ∧ ∃ e, a = Fr 27 (upds e [(0, fptr E j), (1, i64c n'), (2, v), (7, i64c i)]) []) ns.length ⟨0, n, ns, rfl, by omega, rfl, hn, h0, kp _ ⟨rfl, rfl, rfl, rfl, trivial⟩⟩ ?_
  rintro m a u ⟨i, n', l, rfl, hil, hdr, hnl, hI, e, rfl⟩
  refine c_seq (fun K4 hK4 => ?_)
  refine c_seq (fun K5 hK5 => ?_)
  refine c_reg ?_ -- region 2 fn.go:69
  refine wl (ro_move rfl) ?_
  refine wl (ro_cmp rfl rfl rfl) ?_
  refine wl_nil (x_then (hK5 _ _ ?_))
  clear hK5 K5
  refine wc_cond rfl (fun hc9 => ?_) (fun hc9 => ?_)
  · try simp only [decide_eq_true_eq, decide_eq_false_iff_not, Bool.not_eq_true', Bool.not_eq_false', Bool.not_eq_eq_eq_not, Bool.not_true, Bool.not_false, beq_iff_eq, bne_iff_ne, ne_eq, beq_eq_false_iff_ne, bne_eq_false_iff_eq, gt_iff_lt, ge_iff_le, Int.not_lt, Int.not_le] at hc9
    obtain ⟨m, l', rfl⟩ : ∃ m l', l = m :: l' := by
      cases l with
      | nil => have : n' = 0 := hnl; omega
      | cons m l => exact ⟨m, l, rfl⟩
    obtain ⟨rfl, hn0, hnG, hnx⟩ := hnl
    have hlc : (n' :: l').length = l'.length + 1 := rfl
    have hget : ns[i]? = some n' := by
      have : (ns.drop i)[0]? = some n' := by rw [hdr]; rfl
      rw [List.getElem?_drop] at this; exact this
    refine c_skip (x_then (hK4 _ _ ?_))
    clear hK4 K4
    refine forget [(0, _), (1, _), (2, _), (7, _)] ⟨rfl, rfl, rfl, rfl, trivial⟩ (fun e => ?_)
    refine c_seq (fun K6 hK6 => ?_)
    refine c_block ?_
    refine c_seq (fun K7 hK7 => ?_)
    refine c_reg ?_ -- region 4 fn.go:70
    refine wl (ro_move rfl) ?_
    refine wl (ro_move rfl) ?_
    refine wl_callV rfl rfl (hv i n' _ hget hI) ?_
    intro r9 u9 hI9
    obtain ⟨l9, lc, g, cap, ln, hG, hG0, hC, hC2, hN, hrow⟩ := hd _ _ hI9
    obtain ⟨pn, hpn⟩ := hrow n' hnG
    refine wl_nil (x_then (hK7 _ _ ?_))
    clear hK7 K7
    refine c_reg ?_ -- region 5 fn.go:71
    refine wl (ro_move rfl) ?_
    refine wl (ro_arith rfl rfl rfl (Go.IntWalk.i64_in _ (by omega))) ?_
    refine wl (ro_assign rfl) ?_
    refine wl_nil (x_blk (x_then (hK6 _ _ ?_)))
    clear hK6 K6
    refine c_reg ?_ -- region 3 fn.go:69
    refine wl (ro_move rfl) ?_
    refine wl (ro_nilCheck rfl) ?_
    refine wl (ro_fieldAddr (k := 0) rfl fo_199_0) ?_
    refine wl (ro_loadB rfl sc_22 (hG) (hG0)) ?_
    refine wl (ro_nilCheck rfl) ?_
    refine wl (ro_fieldAddr (k := 2) rfl fo_94_2) ?_
    refine wl (ro_loadB rfl sc_77 (hC) (hC2)) ?_
    refine wl (ro_move rfl) ?_
    refine wl (ro_indexAddr (et := 148) (k := 8) rfl rfl se_77 (rfl) (hnG)) ?_
    refine wl (ro_fieldAddr (k := 4) rfl fo_148_4) ?_
    refine wl (ro_loadB rfl sc_3 (hN) (row_get hpn (by decide))) ?_
    refine wl (ro_assign rfl) ?_
    refine wl_nil (x_then ?_)
    refine ⟨l'.length, by omega, i + 1, (nd E.G n').Nx, l', rfl, by omega, ?_, hnx, hI9, kp _ ⟨rfl, rfl, rfl, rfl, trivial⟩⟩
    rw [← List.tail_drop, hdr]; rfl
  · try simp only [decide_eq_true_eq, decide_eq_false_iff_not, Bool.not_eq_true', Bool.not_eq_false', Bool.not_eq_eq_eq_not, Bool.not_true, Bool.not_false, beq_iff_eq, bne_iff_ne, ne_eq, beq_eq_false_iff_ne, bne_eq_false_iff_eq, gt_iff_lt, ge_iff_le, Int.not_lt, Int.not_le] at hc9
    have hl0 : l = [] := by
      cases l with
      | nil => rfl
      | cons m l => exact absurd hc9 (by have := hnl.2.1; omega)
    subst hl0
    have hin : i = ns.length := by simpa using hil
    refine c_exit (x_thenX (x_thenX (x_blkX (x_then (hK3 _ _ ?_)))))
    clear hK4 K4 hK3 K3
    refine forget [(7, _)] ⟨rfl, trivial⟩ (fun e => ?_)
    refine c_seq (fun K8 hK8 => ?_)
    refine c_reg ?_ -- region 6 fn.go:73
    refine wl (ro_move rfl) ?_
    refine wl (ro_assign rfl) ?_
    refine wl_nil (x_then (hK8 _ _ ?_))
    clear hK8 K8
    refine c_ret ?_
    refine bp_ret Tryz.results138 rfl ?_
    subst hin; exact ⟨rfl, hI⟩
theorem mx_app (O : List Nat) (x : Nat) : mx (O ++ [x]) = max (mx O) (x + 1) := by
  unfold mx
  rw [List.foldr_append]
  simp only [List.foldr_cons, List.foldr_nil]
  induction O with
  | nil => simp
  | cons y O ih => simp only [List.foldr_cons]; rw [ih]; omega
theorem row_put {H : Array Obj} {x o : Nat} {r : ZRow} {v : Value} (r' : ZRow) (hr : R[x]? = some r) (hB : Blk H E.gb ((rws fnc R).set (x * 11 + o) v) 199) (ho : o < 11) (he : fnc r' = (fnc r).set o v) : Blk H E.gb (rws fnc (R.set x r')) 199 ∧ (R.set x r')[x]? = some r' ∧ ∀ o, o < 11 → (rws fnc (R.set x r'))[x * 11 + o]? = (fnc r')[o]? := by
  have hx := (List.getElem?_eq_some_iff.1 hr).1
  have h1 : (R.set x r')[x]? = some r' := by rw [List.getElem?_set_self hx]
  rw [rws_set hr ho he] at hB
  exact ⟨hB, h1, fun o ho => row_get (rws_at fnc_len h1) ho⟩
/-- a function begun. -/
theorem CM.push (h : CM E w ow O S A) {x bn bs : Nat} {S' : Fns} {npv nsv c0 p0 nm0 st0 : Value} {la ua ka ca pa : Option Addr} {nl lc nu uc nk kc nc cc np pc : Nat} {m : ZFn} (hx : x < 13) (hxA : ∀ f ∈ A, f.j ≠ x) (hl : R.length = 13) (hall : ∀ j r, R[j]? = some r → ∃ m, FnA E w ow O S A j r m)
    (hm : FnA E w ow O S A x ⟨c0, p0, npv, .slice la nl lc, nsv, .slice ua nu uc, .slice ka nk kc, nm0, st0, .slice ca nc cc, .slice pa np pc⟩ m) (f : Fram (fun b => b = E.gb ∨ b = E.cb) w w') (hbn : w.heap.size ≤ bn) (hbs : w.heap.size ≤ bs) (hne : bn < bs) (hC : Blk w'.heap E.cb [E.sp, E.dp, E.nv, .slice (some ⟨E.gb, 0, none⟩) 13 13, i64c (max (mx O) (x + 1)), E.bv] 94)
    (hB : Blk w'.heap E.gb (rws fnc (R.set x ⟨ptr E.cb, parV E x, i64c 0, .slice la 0 lc, i64c 0, .slice ua 0 uc, .slice ka 0 kc, .map (some bn), .map (some bs), .slice ca 0 cc, .slice pa 0 pc⟩)) 199) (hMn : MF u64c u16c w'.heap bn (fun _ => none)) (hMs : MF Go.Proofs.Qxb6500568aGreatDoor.S u16c w'.heap bs (fun _ => none))
    (hSx : (fsAt S' x).np = 0 ∧ (fsAt S' x).ns = 0 ∧ (fsAt S' x).ups = [] ∧ (fsAt S' x).ks = []) (hS : ∀ k, k ≠ x → fsAt S' k = fsAt S k) : ∃ ow', Xt w ow ow' ∧ CM E w' ow' (O ++ [x]) S' (⟨x, [], [], []⟩ :: A) := by
  obtain ⟨Gp, n1, n2⟩ := h.N
  obtain ⟨R0, -, hb0, -⟩ := h.F
  have hsz := f.size
  have l1 := hMn.lt
  have l2 := hMs.lt
  have hcl := h.cb.lt
  have hgl := hb0.lt
  have hE : Xt w ow (ot (ot ow bn (320 + x)) bs (340 + x)) := fun b hb => by rw [ot_old (by omega), ot_old (by omega)]
  have hn : ∀ b, ow b ≠ 190 → ow b ≠ 191 → b < w.heap.size → ¬ (b = E.gb ∨ b = E.cb) := fun b q1 q2 _ z => z.elim (fun z => q2 (by rw [z]; exact h.ta)) (fun z => q1 (by rw [z]; exact h.tc))
  have hnf : ∀ {k : Nat}, ∀ b, fnT k (ow b) ∨ ow b = 301 → b < w.heap.size → ¬ (b = E.gb ∨ b = E.cb) := fun {k} b q l => hn b (by unfold fnT at q; omega) (by unfold fnT at q; omega) l
  refine ⟨ot (ot ow bn (320 + x)) bs (340 + x), hE, ⟨by rw [mx_app]; exact hC, by rw [hE _ hcl]; exact h.tc, by rw [hE _ hgl]; exact h.ta, ⟨Gp, n1.far f (fun b q l => hn b (by omega) (by omega) l) hE, n2⟩, ⟨_, by rw [List.length_set]; exact hl, hB, fun k r hk => ?_⟩, ?_, fun g hg => ?_, fun b hb => ?_⟩⟩
  · rw [List.getElem?_set] at hk
    by_cases e : x = k
    · subst e
      rw [if_pos rfl, if_pos (by omega)] at hk
      cases hk
      have o := hm.k
      obtain ⟨s1, s2, s3, s4⟩ := hSx
      have i0 := (hm.i hxA).1
      obtain ⟨rows, p1, p2⟩ := o.lps
      have tk : ∀ {tag : Nat} {a : Option Addr} {n c e k n' : Nat} {xs : List Value}, fnT x tag → OwT w ow tag (.slice a n c) e k n' xs → OwT w' (ot (ot ow bn (320 + x)) bs (340 + x)) tag (.slice a 0 c) e k 0 [] := fun {tag a n c e k n' xs} ht oo => by
        obtain ⟨a', c', e'⟩ := oo.form
        cases e'
        have := (oo.take (Nat.zero_le _)).far f (fun b q l => hnf (k := x) b (.inl (by rw [q]; exact ht)) l) hE
        rw [Nat.zero_mul, List.take_zero] at this
        exact this
      refine ⟨⟨[], [], [], [], []⟩, ⟨tk (by unfold fnT; omega) o.loc, tk (by unfold fnT; omega) o.ups, tk (by unfold fnT; omega) o.ks, tk (by unfold fnT; omega) o.code, [], tk (by unfold fnT; omega) p1, rfl⟩, fun _ => ⟨rfl, rfl, by rw [s1], by rw [s2], by rw [s3], by rw [s4], ⟨bn, rfl, hMn, by rw [ot_old (by omega), ot_self]⟩, ⟨bs, rfl, hMs, ot_self _ _ _⟩⟩, fun g hg hgx => ?_, fun hno => (hno _ List.mem_cons_self rfl).elim⟩
      rcases List.mem_cons.1 hg with rfl | hg
      · exact ⟨rfl, rfl, rfl⟩
      · exact (hxA g hg hgx).elim
    · rw [if_neg e] at hk
      obtain ⟨m', q⟩ := hall k r hk
      have q1 := q.far f (hnf (k := k)) hE
      have e' : k ≠ x := fun z => e z.symm
      refine ⟨m', q1.k, fun ho => ?_, fun g hg hgk => ?_, fun hno => ?_⟩
      · have ho : k ∈ O := by
          rcases List.mem_append.1 ho with ho | ho
          · exact ho
          · exact (e' (List.mem_singleton.1 ho)).elim
        have o := q1.o ho
        have es := hS k e'
        exact ⟨o.c, o.par, by rw [es]; exact o.np, by rw [es]; exact o.ns, by rw [es]; exact o.ups, by rw [es]; exact o.ks, o.nums, o.strs⟩
      · rcases List.mem_cons.1 hg with rfl | hg
        · exact (e hgk).elim
        · exact q1.a g hg hgk
      · obtain ⟨i1, i2⟩ := q1.i (fun g hg => hno g (List.mem_cons_of_mem _ hg))
        refine ⟨i1, fun ho => ?_⟩
        rw [hS k e']
        refine i2 ?_
        rcases List.mem_append.1 ho with ho | ho
        · exact ho
        · exact (e' (List.mem_singleton.1 ho)).elim
  · rw [List.map_cons, List.nodup_cons]
    refine ⟨fun q => ?_, h.un⟩
    obtain ⟨g, hg, e⟩ := List.mem_map.1 q
    exact hxA g hg e
  · rcases List.mem_cons.1 hg with rfl | hg
    · exact ⟨by simp, hx⟩
    · exact ⟨List.mem_append_left _ (h.mem g hg).1, (h.mem g hg).2⟩
  · rw [ot_old (by omega), ot_old (by omega)]
    exact h.df b (by omega)
end
end Go.Proofs.Qxb6500568aGreatDoor
