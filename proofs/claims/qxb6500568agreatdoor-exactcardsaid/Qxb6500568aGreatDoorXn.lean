import Derived.Test.Qxb6500568aGreatDoorXm
/- The model's parser: a walk's state; branches. -/
namespace Go.Proofs.Qxb6500568aGreatDoor
open Ieee
set_option linter.unusedVariables false
set_option linter.unusedSimpArgs false

/-- Where a function of the parser stands: the start, and the world, arena and state at hand. -/
structure MS (w : World) (mp : Nat) (np : Value) (src : Str) (U : Value) (G : List (Nd × Nat)) (lv : Nat) (u : World) (U1 : Value) (G1 : List (Nd × Nat)) (s1 : PS) : Prop where
  F : Fram (arS mp U) w u
  nb : nob U U1 w
  a : MA u mp np src U1 G1 s1
  pe : Pe s1
  lo : s1.lo ≤ lv
  bd : G1.length + 3 * s1.len ≤ 10000
  gl : G.length ≤ G1.length
  g1 : 1 ≤ G.length
def EF (w : World) (mp : Nat) (U : Value) (lv : Nat) (u : World) (e p : Nat) : Prop := Fram (arS mp U) w u ∧ ME u mp lv e p
section
variable {n f : Nat} {w u u' : World} {mp : Nat} {np : Value} {src : Str} {U U1 : Value} {G G1 : List (Nd × Nat)} {s s1 s2 : PS} {lv lv1 e p k x : Nat} {t : Tr} {r : Value}
theorem MG.ms (h : MG w mp np src U G s lv) : MS w mp np src U G lv w U G s := ⟨Fram.refl _ _, fun b q => .inl q, h.a, h.pe, h.lo, h.bd, Nat.le_refl _, h.g1⟩
theorem MS.mg (h : MS w mp np src U G lv u U1 G1 s1) (hl : lv ≤ lv1) (h13 : lv1 ≤ 13) : MG u mp np src U1 G1 s1 lv1 := ⟨h.a, h.pe, by have := h.lo; omega, h.bd, by have := h.g1; have := h.gl; omega, h13⟩
theorem MS.onw (h : MS w mp np src U G lv u U1 G1 s1) (hM : MV u' mp np src U1 s1.adv) (f : Fram (one mp) u u') (hk : s1.k ≠ 0) : MS w mp np src U G lv u' U1 G1 s1.adv := ⟨ar_one h.F f, h.nb, h.a.turn hM f, h.pe.cm (Cm.adv h.pe), h.lo, by have := h.bd; have := adv_len' hk; omega, h.gl, h.g1⟩
/-- A count of the parser's was set. -/
theorem MS.setA (h : MS w mp np src U G lv u U1 G1 s1) {a : Nat} (ha : a ≤ 12) (hM : MV u' mp np src U1 { s1 with al := a }) (f : Fram (one mp) u u') : MS w mp np src U G lv u' U1 G1 { s1 with al := a } := ⟨ar_one h.F f, h.nb, h.a.turn hM f, ⟨h.pe.tk, h.pe.fu⟩, h.lo, h.bd, h.gl, h.g1⟩
theorem MS.next (h : MS w mp np src U G lv u U1 G1 s1) (hk : 1 < s1.k) : Ret Tryz.prog 48 [ptr mp] u (fun r u' => r = .tuple #[] ∧ MS w mp np src U G lv u' U1 G1 s1.adv) :=
  (nextM h.a.v hk).mono (fun r u' ⟨h1, h2, h3⟩ => ⟨h1, h.onw h2 h3 (by omega)⟩)
theorem MS.is (h : MS w mp np src U G lv u U1 G1 s1) (hk : 5 ≤ k) (hk2 : k ≤ 46) : Ret Tryz.prog 156 [ptr mp, S (txt k)] u (fun r u' => r = .bool (decide (s1.k = k)) ∧ u' = u) := is156 h.a.v hk hk2
theorem MS.fail (h : MS w mp np src U G lv u U1 G1 s1) {c : Nat} (hc : c ≠ 0) (hl : lv ≤ 14) : Ret Tryz.prog 50 [ptr mp, i64c c] u (fun r u' => r = .tuple #[] ∧ EF w mp U lv u' (if s1.k = 1 then s1.cur.e else c) s1.cur.pl) :=
  (failM h.a.v hc hl).mono (fun r u' ⟨h1, h2, h3⟩ => ⟨h1, ar_one h.F h3, h2⟩)
theorem MS.want (h : MS w mp np src U G lv u U1 G1 s1) (hk : 5 ≤ k) (hk2 : k ≤ 46) (hl : lv ≤ 14) (he : s1.k = k) : Ret Tryz.prog 211 [ptr mp, S (txt k)] u (fun r u' => r = .tuple #[] ∧ MS w mp np src U G lv u' U1 G1 s1.adv) :=
  (wantM (lv := lv) h.a.v hk hk2 hl).mono (fun r u' ⟨h1, h2, h3⟩ => by rw [if_pos he] at h2; exact ⟨h1, h.onw h2 h3 (by omega)⟩)
theorem MS.wantN (h : MS w mp np src U G lv u U1 G1 s1) (hk : 5 ≤ k) (hk2 : k ≤ 46) (hl : lv ≤ 14) (he : ¬ s1.k = k) : Ret Tryz.prog 211 [ptr mp, S (txt k)] u (fun r u' => r = .tuple #[] ∧ EF w mp U lv u' (if s1.k = 1 then s1.cur.e else 15) s1.cur.pl) :=
  (wantM (lv := lv) h.a.v hk hk2 hl).mono (fun r u' ⟨h1, h2, h3⟩ => by rw [if_neg he] at h2; exact ⟨h1, ar_one h.F h3, h2⟩)
theorem MS.name (h : MS w mp np src U G lv u U1 G1 s1) (hN : NmK x s1) (hx : x ≤ 4) : Ret Tryz.prog 209 [ptr mp, i64c x] u (fun r u' => r = .tuple #[S s1.cur.s, i64c s1.cur.pl] ∧ MS w mp np src U G lv u' U1 G1 s1.adv) :=
  (nameMK hN h.a.v hx).mono (fun r u' ⟨h1, h2, h3⟩ => ⟨h2, h.onw h3 h1 (by have := hN.1; omega)⟩)
theorem MS.nameN (h : MS w mp np src U G lv u U1 G1 s1) (hN : NmF x s1 e p) (hx : x ≤ 4) (hl : lv ≤ 14) : Ret Tryz.prog 209 [ptr mp, i64c x] u (fun r u' => (∃ (a : Str) (b : Int), r = .tuple #[S a, .int .i64 b]) ∧ EF w mp U lv u' e p) :=
  (nameMF hN h.a.v hx hl).mono (fun r u' ⟨h1, h2, h3⟩ => ⟨h2, ar_one h.F h1, h3⟩)
theorem EF.want (h : EF w mp U lv u e p) {z : Str} : Ret Tryz.prog 211 [ptr mp, S z] u (fun r u' => r = .tuple #[] ∧ EF w mp U lv u' e p) :=
  (wantE h.2).mono (fun r u' ⟨h1, h2, h3⟩ => ⟨h1, ar_one h.1 h3, h2⟩)
theorem EF.name (h : EF w mp U lv u e p) (hx : x ≤ 4) (hl : lv ≤ 14) : Ret Tryz.prog 209 [ptr mp, i64c x] u (fun r u' => (∃ (a : Str) (b : Int), r = .tuple #[S a, .int .i64 b]) ∧ EF w mp U lv u' e p) :=
  (nameE h.2 hx hl).mono (fun r u' ⟨h1, h2, h3⟩ => ⟨h2, ar_one h.1 h1, h3⟩)
theorem EF.next (h : EF w mp U lv u e p) : Ret Tryz.prog 48 [ptr mp] u (fun r u' => r = .tuple #[] ∧ EF w mp U lv u' e p) :=
  (nextE h.2).mono (fun r u' ⟨h1, h2, h3⟩ => ⟨h1, ar_one h.1 h3, h2⟩)
theorem EF.mr (h : EF w mp U lv u e p) {z : Int} : MR w mp np src lv U G (.inl (e, p)) (.int .i64 z) u := ⟨h.1, ⟨z, rfl⟩, h.2⟩
theorem EF.blk (h : EF w mp U lv u e p) : ∃ np src pos t U, ∃ (al lo : Int) (fu : Nat), Blk u.heap mp (mpc np src pos t U (i64c e) (i64c p) (.int .i64 al) (.int .i64 lo) (i64c fu)) 146 ∧ e ≠ 0 := by
  obtain ⟨np', src', pos', t', U', al', lo', fu', hXe, h1, h2, h3, h4⟩ := h.2
  exact ⟨np', src', pos', t', U', al', lo', fu', hXe, h3⟩
theorem MS.err (h : MS w mp np src U G lv u U1 G1 s1) (hl : lv ≤ lv1) (hr : MR u mp np src lv1 U1 G1 (.inl (e, p)) r u') : (∃ z : Int, r = .int .i64 z) ∧ EF w mp U lv u' e p := ⟨hr.2.1, ar_trans h.F h.nb hr.1, hr.2.2.le hl⟩
theorem MS.ok (h : MS w mp np src U G lv u U1 G1 s1) (hr : MR u mp np src lv1 U1 G1 (.inr (t, s2)) r u') (hc : Cm s1 s2) (hlo : s2.lo = s1.lo) (hnd : ndT t + 3 * s2.len ≤ 3 * s1.len) :
    ∃ U2 G2, r = i64c (rt t G1.length) ∧ MS w mp np src U G lv u' U2 G2 s2 ∧ G2.map Prod.fst = G1.map Prod.fst ++ lay t G1.length ∧ G2.length = G1.length + ndT t := by
  obtain ⟨F, h1, U2, G2, hA, hn, hm, hl⟩ := hr
  exact ⟨U2, G2, h1, ⟨ar_trans h.F h.nb F, nob_trans h.nb h.F.size hn, hA, h.pe.cm hc, by have := h.lo; omega, by have := h.bd; omega, by have := h.gl; omega, h.g1⟩, hm, hl⟩
/-- Expressions. -/
theorem MS.xE (h : MS w mp np src U G lv u U1 G1 s1) (ih : MAll n) (hl : lv ≤ 12) (hn : 20 * s1.len + 10 ≤ n) (hq : parP f 0 (lv + 1) 1 0 dumT s1 = some (.inl (e, p))) : Ret Tryz.prog 160 [ptr mp, i64c (lv + 1)] u (fun r u' => (∃ z : Int, r = .int .i64 z) ∧ EF w mp U lv u' e p) :=
  (ih.x0 (h.mg (by omega) (by omega)) hn ⟨f, hq⟩).mono (fun r u' hr => h.err (by omega) hr)
theorem MS.xK (h : MS w mp np src U G lv u U1 G1 s1) (ih : MAll n) (hl : lv ≤ 12) (hn : 20 * s1.len + 10 ≤ n) (hq : parP f 0 (lv + 1) 1 0 dumT s1 = some (.inr (t, s2))) : Ret Tryz.prog 160 [ptr mp, i64c (lv + 1)] u (fun r u' => ∃ U2 G2, r = i64c (rt t G1.length) ∧ MS w mp np src U G lv u' U2 G2 s2 ∧ G2.map Prod.fst = G1.map Prod.fst ++ lay t G1.length ∧ G2.length = G1.length + ndT t ∧ QE t (bR (lv + 1) 1) ∧ s2.al = s1.al ∧ ndT t + 2 + 3 * s2.len ≤ 3 * s1.len) := by
  obtain ⟨h1, h2, h3, h4⟩ := MG.run0 ⟨f, hq⟩ h.pe
  refine (ih.x0 (h.mg (by omega) (by omega)) hn ⟨f, hq⟩).mono (fun r u' hr => ?_)
  obtain ⟨U2, G2, q1, q2, q3, q4⟩ := h.ok hr h2.toCm h2.lo (by omega)
  exact ⟨U2, G2, q1, q2, q3, q4, h1, h2.al, h4⟩
/-- Blocks. -/
theorem MS.bE (h : MS w mp np src U G lv u U1 G1 s1) (ih : MAll n) (hl : lv ≤ 12) (hn : 20 * s1.len + 15 ≤ n) (hq : parP f 6 (lv + 1) 0 0 dumT s1 = some (.inl (e, p))) : Ret Tryz.prog 49 [ptr mp, i64c (lv + 1)] u (fun r u' => (∃ z : Int, r = .int .i64 z) ∧ EF w mp U lv u' e p) :=
  (ih.bl (h.mg (by omega) (by omega)) hn ⟨f, hq⟩).mono (fun r u' hr => h.err (by omega) hr)
theorem MS.bK (h : MS w mp np src U G lv u U1 G1 s1) (ih : MAll n) (hl : lv ≤ 12) (hn : 20 * s1.len + 15 ≤ n) (hq : parP f 6 (lv + 1) 0 0 dumT s1 = some (.inr (t, s2))) : Ret Tryz.prog 49 [ptr mp, i64c (lv + 1)] u (fun r u' => ∃ U2 G2, r = i64c (rt t G1.length) ∧ MS w mp np src U G lv u' U2 G2 s2 ∧ G2.map Prod.fst = G1.map Prod.fst ++ lay t G1.length ∧ G2.length = G1.length + ndT t ∧ LyL 3 t ∧ s2.al = s1.al ∧ ndT t + 3 * s2.len ≤ 3 * s1.len) := by
  obtain ⟨h1, _, h2, _⟩ := (par_q f).i6 h.pe t s2 hq
  have h4 : ndT t + 3 * s2.len ≤ 3 * s1.len := (IB.all f).b t s2 hq
  refine (ih.bl (h.mg (by omega) (by omega)) hn ⟨f, hq⟩).mono (fun r u' hr => ?_)
  obtain ⟨U2, G2, q1, q2, q3, q4⟩ := h.ok hr h2.toCm h2.lo h4
  exact ⟨U2, G2, q1, q2, q3, q4, h1, h2.al, h4⟩
/-- Bodies of loops. -/
theorem MS.dE (h : MS w mp np src U G lv u U1 G1 s1) (ih : MAll n) (hl : lv ≤ 12) {m : Nat} (hm : m ≤ 4) (ha : s1.al + m ≤ 12) (hn : 20 * s1.len + 12 ≤ n) (hq : parP f 10 lv m 0 dumT s1 = some (.inl (e, p))) : Ret Tryz.prog 161 [ptr mp, i64c lv, i64c m] u (fun r u' => (∃ z : Int, r = .int .i64 z) ∧ EF w mp U lv u' e p) :=
  (ih.b10 (h.mg (by omega) (by omega)) hl ha hm hn ⟨f, hq⟩).mono (fun r u' hr => h.err (by omega) hr)
theorem MS.dK (h : MS w mp np src U G lv u U1 G1 s1) (ih : MAll n) (hl : lv ≤ 12) {m : Nat} (hm : m ≤ 4) (ha : s1.al + m ≤ 12) (hn : 20 * s1.len + 12 ≤ n) (hq : parP f 10 lv m 0 dumT s1 = some (.inr (t, s2))) : Ret Tryz.prog 161 [ptr mp, i64c lv, i64c m] u (fun r u' => ∃ U2 G2, r = i64c (rt t G1.length) ∧ MS w mp np src U G lv u' U2 G2 s2 ∧ G2.map Prod.fst = G1.map Prod.fst ++ lay t G1.length ∧ G2.length = G1.length + ndT t ∧ LyL 3 t ∧ s2.al = s1.al ∧ ndT t + 3 * s2.len ≤ 3 * s1.len) := by
  obtain ⟨h1, _, h2, _⟩ := (par_q f).i10 h.pe hl t s2 hq
  have h4 : ndT t + 3 * s2.len ≤ 3 * s1.len := (IB.all f).d t s2 hq
  refine (ih.b10 (h.mg (by omega) (by omega)) hl ha hm hn ⟨f, hq⟩).mono (fun r u' hr => ?_)
  obtain ⟨U2, G2, q1, q2, q3, q4⟩ := h.ok hr h2.toCm h2.lo h4
  exact ⟨U2, G2, q1, q2, q3, q4, h1, h2.al, h4⟩
/-- 'elseif'. -/
theorem MS.iE (h : MS w mp np src U G lv u U1 G1 s1) (ih : MAll n) (hl : lv ≤ 11) (hk : 1 < s1.k) (hn : 20 * s1.len + 12 ≤ n) (hq : parP f 9 (lv + 1) 0 0 dumT s1 = some (.inl (e, p))) : Ret Tryz.prog 158 [ptr mp, i64c (lv + 1)] u (fun r u' => (∃ z : Int, r = .int .i64 z) ∧ EF w mp U lv u' e p) :=
  (ih.i9 (h.mg (by omega) (by omega)) (by omega) hk hn ⟨f, hq⟩).mono (fun r u' hr => h.err (by omega) hr)
theorem MS.iK (h : MS w mp np src U G lv u U1 G1 s1) (ih : MAll n) (hl : lv ≤ 11) (hk : 1 < s1.k) (hn : 20 * s1.len + 12 ≤ n) (hq : parP f 9 (lv + 1) 0 0 dumT s1 = some (.inr (t, s2))) : Ret Tryz.prog 158 [ptr mp, i64c (lv + 1)] u (fun r u' => ∃ U2 G2, r = i64c (rt t G1.length) ∧ MS w mp np src U G lv u' U2 G2 s2 ∧ G2.map Prod.fst = G1.map Prod.fst ++ lay t G1.length ∧ G2.length = G1.length + ndT t ∧ LX t ∧ s2.al = s1.al ∧ ndT t + 1 + 3 * s2.len ≤ 3 * s1.len) := by
  obtain ⟨h1, _, h2, _⟩ := (par_q f).i9 h.pe (by omega) t s2 hq
  have h4 : ndT t + 1 + 3 * s2.len ≤ 3 * s1.len := (IB.all f).i9 (by omega) t s2 hq
  refine (ih.i9 (h.mg (by omega) (by omega)) (by omega) hk hn ⟨f, hq⟩).mono (fun r u' hr => ?_)
  obtain ⟨U2, G2, q1, q2, q3, q4⟩ := h.ok hr h2.toCm h2.lo (by omega)
  exact ⟨U2, G2, q1, q2, q3, q4, h1.lx, h2.al, h4⟩
/-- A node is added. -/
theorem MS.add (h : MS w mp np src U G lv u U1 G1 s1) {x : Nd × Nat} (hb : G1.length + 1 + 3 * s1.len ≤ 10000) : Ret Tryz.prog 162 [ptr mp, .agg (ndc x).toArray] u (fun r u' => r = i64c G1.length ∧ ∃ U2, MS w mp np src U G lv u' U2 (G1 ++ [x]) s1) :=
  (addM h.a (by omega)).mono (fun r u' ⟨h1, U2, hA, hn, F⟩ => ⟨h1, U2, ar_trans h.F h.nb F, nob_trans h.nb h.F.size hn, hA, h.pe, h.lo, by rw [List.length_append]; exact hb, by have := h.gl; rw [List.length_append]; omega, h.g1⟩)
theorem MS.fin (h : MS w mp np src U G lv u U1 G1 s1) (hm : G1.map Prod.fst = G.map Prod.fst ++ lay t G.length) (hl : G1.length = G.length + ndT t) (hr : k = rt t G.length) : MR w mp np src lv U G (.inr (t, s1)) (i64c k) u := ⟨h.F, by rw [hr], U1, G1, h.a, h.nb, hm, hl⟩
theorem lay_iff {x y z : Tr} {b : Nat} : lay (St.iff x y z) b = lay x b ++ lay y (b + ndT x) ++ lay z (b + ndT x + ndT y) ++ [⟨6, rt x b, rt y (b + ndT x), rt z (b + ndT x + ndT y), 0, 0, []⟩] := rfl
theorem scons1 (h : LX t) (b : Nat) : lay (StL.cons t StL.nil) b = lay t b ∧ rt (StL.cons t StL.nil) b = rt t b ∧ ndT (StL.cons t StL.nil) = ndT t := ⟨by
  show nxL (lay t b) 0 ++ [] = _
  rw [List.append_nil, h.nx0], by rw [h.rt]; rfl, by show 0 + ndT t + 0 = _; omega⟩
end
set_option maxHeartbeats 8000000 in
theorem ifStmt158 {n : Nat} {w : World} {mp : Nat} {np : Value} {src : Str} {U : Value} {G : List (Nd × Nat)} {s : PS} {lv : Nat} {R : PO} (ih : MAll n) (hG : MG w mp np src U G s lv) (hlv : lv ≤ 12) (hk1 : 1 < s.k) (hn : 20 * s.len + 12 ≤ n + 1) (hR : Run 9 lv 0 0 dumT s R) : Ret Tryz.prog 158 [ptr mp, i64c lv] w (MR w mp np src lv U G R) := by
  have hS0 := hG.ms
  have hg1 := hG.g1
  obtain ⟨f, hR⟩ := run_step.1 hR
  replace hR : pIf (parP f) lv s = some R := hR
  unfold pIf expP at hR
  have ha0 := adv_len' (s := s) (by omega)
  obtain ⟨pos0, hX, hpos0⟩ := hG.a.v.ex
  unfold mpc at hX
  refine ret_of Tryz.func158 rfl Tryz.ntmps158 rfl ?_
  refine c_seq (fun K1 hK1 => ?_)
  refine c_reg ?_ -- region 0 syntaxm.go:254
  refine wl (ro_assign rfl) ?_
  refine wl_nil (x_then (hK1 _ _ ?_))
  clear hK1 K1
  refine forget [(0, _), (1, _)] ⟨rfl, rfl, trivial⟩ (fun e => ?_)
  refine c_seq (fun K2 hK2 => ?_)
  refine c_reg ?_ -- region 1 syntaxm.go:255
  refine wl (ro_move rfl) ?_
  refine wl (ro_nilCheck rfl) ?_
  refine wl (ro_fieldAddr (k := 3) rfl fo_146_3) ?_
  refine wl (ro_fieldAddr (k := 3) rfl fo_144_3) ?_
  refine wl (ro_loadB rfl sc_3 (by assumption) rfl) ?_
  refine wl (ro_assign rfl) ?_
  refine wl_nil (x_then (hK2 _ _ ?_))
  clear hK2 K2
  refine forget [(0, _), (1, _), (5, _)] ⟨rfl, rfl, rfl, trivial⟩ (fun e => ?_)
  refine c_seq (fun K3 hK3 => ?_)
  refine c_reg ?_ -- region 2 syntaxm.go:256
  refine wl (ro_move rfl) ?_
  refine wl_call rfl en_48 (hS0.next hk1) ?_
  rintro _ u1 ⟨rfl, hS1⟩
  refine wl_nil (x_then (hK3 _ _ ?_))
  clear hK3 K3
  refine forget [(0, _), (1, _), (5, _)] ⟨rfl, rfl, rfl, trivial⟩ (fun e => ?_)
  refine c_seq (fun K4 hK4 => ?_)
  rcases bdP_some hR with ⟨⟨ee, pp⟩, hq, rfl⟩ | ⟨t1, s1, hq, hR⟩
  · skip
    refine c_reg ?_ -- region 3 syntaxm.go:257
    refine wl (ro_move rfl) ?_
    refine wl (ro_move rfl) ?_
    refine wl (ro_arith rfl rfl rfl (Go.IntWalk.i64_in _ (by omega))) ?_
    refine wl_call rfl en_160 (hS1.xE ih hlv (by omega) hq) ?_
    rintro v u2 ⟨⟨z, rfl⟩, hE⟩
    refine wl (ro_assign rfl) ?_
    refine wl_nil (x_then (hK4 _ _ ?_))
    clear hK4 K4
    refine forget [(0, _), (1, _), (5, _), (6, _)] ⟨rfl, rfl, rfl, rfl, trivial⟩ (fun e => ?_)
    refine c_seq (fun K5 hK5 => ?_)
    refine c_reg ?_ -- region 4 syntaxm.go:258
    refine wl (ro_move rfl) ?_
    refine wl_call rfl en_211 (hE.want) ?_
    rintro _ u3 ⟨rfl, hE3⟩
    obtain ⟨np', src', pos', t', U', al', lo', fu', hXe, h3⟩ := hE3.blk
    unfold mpc at hXe
    refine wl_nil (x_then (hK5 _ _ ?_))
    clear hK5 K5
    refine c_seq (fun K6 hK6 => ?_)
    refine c_seq (fun K7 hK7 => ?_)
    refine c_reg ?_ -- region 5 syntaxm.go:259
    refine wl (ro_move rfl) ?_
    refine wl (ro_nilCheck rfl) ?_
    refine wl (ro_fieldAddr (k := 9) rfl fo_146_5) ?_
    refine wl (ro_loadB rfl sc_54 (by assumption) rfl) ?_
    refine wl (ro_cmp rfl rfl rfl) ?_
    refine wl_nil (x_then (hK7 _ _ ?_))
    clear hK7 K7
    refine wc_cond rfl (fun hc26 => ?_) (fun hc26 => ?_)
    · try simp only [decide_eq_true_eq, decide_eq_false_iff_not, Bool.not_eq_true', Bool.not_eq_false', Bool.not_eq_eq_eq_not, Bool.not_true, Bool.not_false, beq_iff_eq, bne_iff_ne, ne_eq, beq_eq_false_iff_ne, bne_eq_false_iff_eq, gt_iff_lt, ge_iff_le, Int.not_lt, Int.not_le] at hc26
      refine c_seq (fun K8 hK8 => ?_)
      refine c_reg ?_ -- region 6 syntaxm.go:260
      refine wl (ro_assign rfl) ?_
      refine wl_nil (x_then (hK8 _ _ ?_))
      clear hK8 K8
      refine c_ret (x_thenR ?_)
      refine bp_ret Tryz.results158 rfl ?_
      exact hE3.mr
    · try simp only [decide_eq_true_eq, decide_eq_false_iff_not, Bool.not_eq_true', Bool.not_eq_false', Bool.not_eq_eq_eq_not, Bool.not_true, Bool.not_false, beq_iff_eq, bne_iff_ne, ne_eq, beq_eq_false_iff_ne, bne_eq_false_iff_eq, gt_iff_lt, ge_iff_le, Int.not_lt, Int.not_le] at hc26
      omega
  · skip
    refine c_reg ?_ -- region 3 syntaxm.go:257
    refine wl (ro_move rfl) ?_
    refine wl (ro_move rfl) ?_
    refine wl (ro_arith rfl rfl rfl (Go.IntWalk.i64_in _ (by omega))) ?_
    refine wl_call rfl en_160 (hS1.xK ih hlv (by omega) hq) ?_
    rintro v u2 ⟨U2, G2, rfl, hS2, m2, l2, q2, al2, b2⟩
    have ll2 : lv + 1 ≤ 12 := (MG.run0 ⟨f, hq⟩ hS1.pe).2.2.1
    refine wl (ro_assign rfl) ?_
    refine wl_nil (x_then (hK4 _ _ ?_))
    clear hK4 K4
    refine forget [(0, _), (1, _), (5, _), (6, _)] ⟨rfl, rfl, rfl, rfl, trivial⟩ (fun e => ?_)
    refine c_seq (fun K9 hK9 => ?_)
    by_cases hk : s1.k = 19
    · skip
      rw [if_pos hk] at hR
      refine c_reg ?_ -- region 4 syntaxm.go:258
      refine wl (ro_move rfl) ?_
      refine wl_call rfl en_211 (hS2.want (k := 19) (by decide) (by decide) (by omega) hk) ?_
      rintro _ u3 ⟨rfl, hS3⟩
      have ha1 := adv_len' (s := s1) (by omega)
      obtain ⟨pos3, hX3, hpos3⟩ := hS3.a.v.ex
      unfold mpc at hX3
      refine wl_nil (x_then (hK9 _ _ ?_))
      clear hK9 K9
      refine c_seq (fun K10 hK10 => ?_)
      refine c_seq (fun K11 hK11 => ?_)
      refine c_reg ?_ -- region 5 syntaxm.go:259
      refine wl (ro_move rfl) ?_
      refine wl (ro_nilCheck rfl) ?_
      refine wl (ro_fieldAddr (k := 9) rfl fo_146_5) ?_
      refine wl (ro_loadB rfl sc_54 (by assumption) rfl) ?_
      refine wl (ro_cmp rfl rfl rfl) ?_
      refine wl_nil (x_then (hK11 _ _ ?_))
      clear hK11 K11
      refine wc_cond rfl (fun hc26 => ?_) (fun hc26 => ?_)
      · try simp only [decide_eq_true_eq, decide_eq_false_iff_not, Bool.not_eq_true', Bool.not_eq_false', Bool.not_eq_eq_eq_not, Bool.not_true, Bool.not_false, beq_iff_eq, bne_iff_ne, ne_eq, beq_eq_false_iff_ne, bne_eq_false_iff_eq, gt_iff_lt, ge_iff_le, Int.not_lt, Int.not_le] at hc26
        exact absurd rfl hc26
      · try simp only [decide_eq_true_eq, decide_eq_false_iff_not, Bool.not_eq_true', Bool.not_eq_false', Bool.not_eq_eq_eq_not, Bool.not_true, Bool.not_false, beq_iff_eq, bne_iff_ne, ne_eq, beq_eq_false_iff_ne, bne_eq_false_iff_eq, gt_iff_lt, ge_iff_le, Int.not_lt, Int.not_le] at hc26
        refine c_skip (x_then (hK10 _ _ ?_))
        clear hK10 K10
        refine forget [(0, _), (1, _), (5, _), (6, _)] ⟨rfl, rfl, rfl, rfl, trivial⟩ (fun e => ?_)
        refine c_seq (fun K12 hK12 => ?_)
        rcases bdP_some hR with ⟨⟨ee, pp⟩, hq, rfl⟩ | ⟨t2, s2, hq, hR⟩
        · skip
          refine c_reg ?_ -- region 7 syntaxm.go:262
          refine wl (ro_move rfl) ?_
          refine wl (ro_move rfl) ?_
          refine wl (ro_arith rfl rfl rfl (Go.IntWalk.i64_in _ (by omega))) ?_
          refine wl_call rfl en_49 (hS3.bE ih hlv (by omega) hq) ?_
          rintro v u4 ⟨⟨z, rfl⟩, hE4⟩
          obtain ⟨np', src', pos', t', U', al', lo', fu', hXe, h3⟩ := hE4.blk
          unfold mpc at hXe
          refine wl (ro_assign rfl) ?_
          refine wl_nil (x_then (hK12 _ _ ?_))
          clear hK12 K12
          refine c_seq (fun K13 hK13 => ?_)
          refine c_seq (fun K14 hK14 => ?_)
          refine c_reg ?_ -- region 8 syntaxm.go:263
          refine wl (ro_move rfl) ?_
          refine wl (ro_nilCheck rfl) ?_
          refine wl (ro_fieldAddr (k := 9) rfl fo_146_5) ?_
          refine wl (ro_loadB rfl sc_54 (by assumption) rfl) ?_
          refine wl (ro_cmp rfl rfl rfl) ?_
          refine wl_nil (x_then (hK14 _ _ ?_))
          clear hK14 K14
          refine wc_cond rfl (fun hc35 => ?_) (fun hc35 => ?_)
          · try simp only [decide_eq_true_eq, decide_eq_false_iff_not, Bool.not_eq_true', Bool.not_eq_false', Bool.not_eq_eq_eq_not, Bool.not_true, Bool.not_false, beq_iff_eq, bne_iff_ne, ne_eq, beq_eq_false_iff_ne, bne_eq_false_iff_eq, gt_iff_lt, ge_iff_le, Int.not_lt, Int.not_le] at hc35
            refine c_seq (fun K15 hK15 => ?_)
            refine c_reg ?_ -- region 9 syntaxm.go:264
            refine wl (ro_assign rfl) ?_
            refine wl_nil (x_then (hK15 _ _ ?_))
            clear hK15 K15
            refine c_ret (x_thenR ?_)
            refine bp_ret Tryz.results158 rfl ?_
            exact hE4.mr
          · try simp only [decide_eq_true_eq, decide_eq_false_iff_not, Bool.not_eq_true', Bool.not_eq_false', Bool.not_eq_eq_eq_not, Bool.not_true, Bool.not_false, beq_iff_eq, bne_iff_ne, ne_eq, beq_eq_false_iff_ne, bne_eq_false_iff_eq, gt_iff_lt, ge_iff_le, Int.not_lt, Int.not_le] at hc35
            omega
        · skip
          refine c_reg ?_ -- region 7 syntaxm.go:262
          refine wl (ro_move rfl) ?_
          refine wl (ro_move rfl) ?_
          refine wl (ro_arith rfl rfl rfl (Go.IntWalk.i64_in _ (by omega))) ?_
          refine wl_call rfl en_49 (hS3.bK ih hlv (by omega) hq) ?_
          rintro v u4 ⟨U4, G4, rfl, hS4, m4, l4, q4, al4, b4⟩
          obtain ⟨pos4, hX4, hpos4⟩ := hS4.a.v.ex
          unfold mpc at hX4
          refine wl (ro_assign rfl) ?_
          refine wl_nil (x_then (hK12 _ _ ?_))
          clear hK12 K12
          refine c_seq (fun K16 hK16 => ?_)
          refine c_seq (fun K17 hK17 => ?_)
          refine c_reg ?_ -- region 8 syntaxm.go:263
          refine wl (ro_move rfl) ?_
          refine wl (ro_nilCheck rfl) ?_
          refine wl (ro_fieldAddr (k := 9) rfl fo_146_5) ?_
          refine wl (ro_loadB rfl sc_54 (by assumption) rfl) ?_
          refine wl (ro_cmp rfl rfl rfl) ?_
          refine wl_nil (x_then (hK17 _ _ ?_))
          clear hK17 K17
          refine wc_cond rfl (fun hc35 => ?_) (fun hc35 => ?_)
          · try simp only [decide_eq_true_eq, decide_eq_false_iff_not, Bool.not_eq_true', Bool.not_eq_false', Bool.not_eq_eq_eq_not, Bool.not_true, Bool.not_false, beq_iff_eq, bne_iff_ne, ne_eq, beq_eq_false_iff_ne, bne_eq_false_iff_eq, gt_iff_lt, ge_iff_le, Int.not_lt, Int.not_le] at hc35
            exact absurd rfl hc35
          · try simp only [decide_eq_true_eq, decide_eq_false_iff_not, Bool.not_eq_true', Bool.not_eq_false', Bool.not_eq_eq_eq_not, Bool.not_true, Bool.not_false, beq_iff_eq, bne_iff_ne, ne_eq, beq_eq_false_iff_ne, bne_eq_false_iff_eq, gt_iff_lt, ge_iff_le, Int.not_lt, Int.not_le] at hc35
            refine c_skip (x_then (hK16 _ _ ?_))
            clear hK16 K16
            refine forget [(0, _), (1, _), (5, _), (6, _), (7, _)] ⟨rfl, rfl, rfl, rfl, rfl, trivial⟩ (fun e => ?_)
            refine c_seq (fun K18 hK18 => ?_)
            refine c_reg ?_ -- region 10 syntaxm.go:266
            refine wl (ro_assign rfl) ?_
            refine wl_nil (x_then (hK18 _ _ ?_))
            clear hK18 K18
            refine c_seq (fun K19 hK19 => ?_)
            refine c_seq (fun K20 hK20 => ?_)
            refine c_reg ?_ -- region 11 syntaxm.go:267
            refine wl (ro_move rfl) ?_
            refine wl_call rfl en_156 (hS4.is (k := 8) (by decide) (by decide)) ?_
            rintro _ w9 ⟨rfl, e9⟩
            replace e9 := e9.symm
            subst e9
            refine wl_nil (x_then (hK20 _ _ ?_))
            clear hK20 K20
            refine wc_cond rfl (fun hc37 => ?_) (fun hc37 => ?_)
            · try simp only [decide_eq_true_eq, decide_eq_false_iff_not, Bool.not_eq_true', Bool.not_eq_false', Bool.not_eq_eq_eq_not, Bool.not_true, Bool.not_false, beq_iff_eq, bne_iff_ne, ne_eq, beq_eq_false_iff_ne, bne_eq_false_iff_eq, gt_iff_lt, ge_iff_le, Int.not_lt, Int.not_le] at hc37
              rw [if_pos (by omega)] at hR
              refine c_seq (fun K21 hK21 => ?_)
              rcases bdP_some hR with ⟨⟨ee, pp⟩, hq, rfl⟩ | ⟨t3, s3, hq, hR⟩
              · skip
                refine c_reg ?_ -- region 12 syntaxm.go:268
                refine wl (ro_move rfl) ?_
                refine wl (ro_move rfl) ?_
                refine wl (ro_arith rfl rfl rfl (Go.IntWalk.i64_in _ (by omega))) ?_
                refine wl_call rfl en_158 (hS4.iE ih (by omega) (by omega) (by omega) hq) ?_
                rintro v u5 ⟨⟨z, rfl⟩, hE5⟩
                obtain ⟨np', src', pos', t', U', al', lo', fu', hXe, h3⟩ := hE5.blk
                unfold mpc at hXe
                refine wl (ro_assign rfl) ?_
                refine wl_nil (x_then (hK21 _ _ ?_))
                clear hK21 K21
                refine c_seq (fun K22 hK22 => ?_)
                refine c_seq (fun K23 hK23 => ?_)
                refine c_reg ?_ -- region 13 syntaxm.go:269
                refine wl (ro_move rfl) ?_
                refine wl (ro_nilCheck rfl) ?_
                refine wl (ro_fieldAddr (k := 9) rfl fo_146_5) ?_
                refine wl (ro_loadB rfl sc_54 (by assumption) rfl) ?_
                refine wl (ro_cmp rfl rfl rfl) ?_
                refine wl_nil (x_then (hK23 _ _ ?_))
                clear hK23 K23
                refine wc_cond rfl (fun hc46 => ?_) (fun hc46 => ?_)
                · try simp only [decide_eq_true_eq, decide_eq_false_iff_not, Bool.not_eq_true', Bool.not_eq_false', Bool.not_eq_eq_eq_not, Bool.not_true, Bool.not_false, beq_iff_eq, bne_iff_ne, ne_eq, beq_eq_false_iff_ne, bne_eq_false_iff_eq, gt_iff_lt, ge_iff_le, Int.not_lt, Int.not_le] at hc46
                  refine c_seq (fun K24 hK24 => ?_)
                  refine c_reg ?_ -- region 14 syntaxm.go:270
                  refine wl (ro_assign rfl) ?_
                  refine wl_nil (x_then (hK24 _ _ ?_))
                  clear hK24 K24
                  refine c_ret (x_thenR (x_thenR ?_))
                  refine bp_ret Tryz.results158 rfl ?_
                  exact hE5.mr
                · try simp only [decide_eq_true_eq, decide_eq_false_iff_not, Bool.not_eq_true', Bool.not_eq_false', Bool.not_eq_eq_eq_not, Bool.not_true, Bool.not_false, beq_iff_eq, bne_iff_ne, ne_eq, beq_eq_false_iff_ne, bne_eq_false_iff_eq, gt_iff_lt, ge_iff_le, Int.not_lt, Int.not_le] at hc46
                  omega
              · skip
                refine c_reg ?_ -- region 12 syntaxm.go:268
                refine wl (ro_move rfl) ?_
                refine wl (ro_move rfl) ?_
                refine wl (ro_arith rfl rfl rfl (Go.IntWalk.i64_in _ (by omega))) ?_
                refine wl_call rfl en_158 (hS4.iK ih (by omega) (by omega) (by omega) hq) ?_
                rintro v u5 ⟨U5, G5, rfl, hS5, m5, l5, q5, al5, b5⟩
                obtain ⟨pos5, hX5, hpos5⟩ := hS5.a.v.ex
                unfold mpc at hX5
                refine wl (ro_assign rfl) ?_
                refine wl_nil (x_then (hK21 _ _ ?_))
                clear hK21 K21
                refine c_seq (fun K25 hK25 => ?_)
                refine c_seq (fun K26 hK26 => ?_)
                refine c_reg ?_ -- region 13 syntaxm.go:269
                refine wl (ro_move rfl) ?_
                refine wl (ro_nilCheck rfl) ?_
                refine wl (ro_fieldAddr (k := 9) rfl fo_146_5) ?_
                refine wl (ro_loadB rfl sc_54 (by assumption) rfl) ?_
                refine wl (ro_cmp rfl rfl rfl) ?_
                refine wl_nil (x_then (hK26 _ _ ?_))
                clear hK26 K26
                refine wc_cond rfl (fun hc46 => ?_) (fun hc46 => ?_)
                · try simp only [decide_eq_true_eq, decide_eq_false_iff_not, Bool.not_eq_true', Bool.not_eq_false', Bool.not_eq_eq_eq_not, Bool.not_true, Bool.not_false, beq_iff_eq, bne_iff_ne, ne_eq, beq_eq_false_iff_ne, bne_eq_false_iff_eq, gt_iff_lt, ge_iff_le, Int.not_lt, Int.not_le] at hc46
                  exact absurd rfl hc46
                · try simp only [decide_eq_true_eq, decide_eq_false_iff_not, Bool.not_eq_true', Bool.not_eq_false', Bool.not_eq_eq_eq_not, Bool.not_true, Bool.not_false, beq_iff_eq, bne_iff_ne, ne_eq, beq_eq_false_iff_ne, bne_eq_false_iff_eq, gt_iff_lt, ge_iff_le, Int.not_lt, Int.not_le] at hc46
                  refine c_skip (x_then (hK25 _ _ ?_))
                  clear hK25 K25
                  refine forget [(0, _), (5, _), (6, _), (7, _), (8, _)] ⟨rfl, rfl, rfl, rfl, rfl, trivial⟩ (fun e => ?_)
                  refine c_seq (fun K27 hK27 => ?_)
                  refine c_reg ?_ -- region 15 syntaxm.go:272
                  refine wl (ro_move rfl) ?_
                  refine wl (ro_move rfl) ?_
                  refine wl (ro_move rfl) ?_
                  refine wl (ro_move rfl) ?_
                  refine wl (ro_move rfl) ?_
                  refine wl (ro_build rfl bld_148_0_1_2_3_7) ?_
                  refine wl_call rfl en_162 (hS5.add (x := (⟨6, rt t1 G.length, rt t2 G2.length, rt t3 G4.length, 0, 0, []⟩, s.cur.pl)) (by have := hS5.bd; have := hG.bd; omega)) ?_
                  rintro _ u6 ⟨rfl, U6, hS6⟩
                  refine wl (ro_assign rfl) ?_
                  refine wl_nil (x_then (hK27 _ _ ?_))
                  clear hK27 K27
                  refine c_ret (x_thenR ?_)
                  refine bp_ret Tryz.results158 rfl ?_
                  cases okP_inj hR
                  obtain ⟨c1, c2, c3⟩ := scons1 q5 G4.length
                  refine hS6.fin ?_ ?_ ?_
                  · rw [l4, l2] at c1 c2
                    rw [List.map_append, m5, m4, m2, l4, l2, ← c1, ← c2, lay_iff]
                    simp only [List.append_assoc]
                    rfl
                  · rw [List.length_append]
                    show _ = G.length + (1 + ndT t1 + ndT t2 + ndT (StL.cons t3 StL.nil))
                    rw [c3]
                    simp only [List.length_cons, List.length_nil]
                    omega
                  · show _ = G.length + (1 + ndT t1 + ndT t2 + ndT (StL.cons t3 StL.nil)) - 1
                    rw [c3]
                    omega
            · try simp only [decide_eq_true_eq, decide_eq_false_iff_not, Bool.not_eq_true', Bool.not_eq_false', Bool.not_eq_eq_eq_not, Bool.not_true, Bool.not_false, beq_iff_eq, bne_iff_ne, ne_eq, beq_eq_false_iff_ne, bne_eq_false_iff_eq, gt_iff_lt, ge_iff_le, Int.not_lt, Int.not_le] at hc37
              rw [if_neg (by omega)] at hR
              refine c_skip (x_then (hK19 _ _ ?_))
              clear hK19 K19
              refine c_mid (fun a' w' => ∃ (z : Int), ((∃ (U6 : Value) (G6 : List (Nd × Nat)) (s6 : PS) (t3 : Tr), (s6.k = 9 ∨ ¬ s6.k = 9) ∧ MS w mp np src U G lv w' U6 G6 s6 ∧ (if s6.k = 9 then okP (St.iff t1 t2 t3) s6.adv else failP 15 s6) = some R ∧ G6.map Prod.fst = G4.map Prod.fst ++ lay t3 G4.length ∧ G6.length = G4.length + ndT t3 ∧ ndT t1 + ndT t2 + ndT t3 + 3 + 3 * s6.len ≤ 3 * s.len ∧ z = (rt t3 G4.length : Nat)) ∨ ∃ ee pp, R = .inl (ee, pp) ∧ EF w mp U lv w' ee pp) ∧ ∃ e, a' = Fr 76 (upds e [(0, ptr mp), (1, i64c lv), (5, i64c s.cur.pl), (6, i64c (rt t1 G.length)), (7, i64c (rt t2 G2.length)), (8, .int .i64 z)]) []) ?_ ?_
              · skip
                refine c_seq (fun K28 hK28 => ?_)
                refine c_reg ?_ -- region 16 syntaxm.go:274
                refine wl (ro_move rfl) ?_
                refine wl_call rfl en_156 (hS4.is (k := 7) (by decide) (by decide)) ?_
                rintro _ w9 ⟨rfl, e9⟩
                replace e9 := e9.symm
                subst e9
                refine wl_nil (x_then (hK28 _ _ ?_))
                clear hK28 K28
                refine wc_cond rfl (fun hc55 => ?_) (fun hc55 => ?_)
                · try simp only [decide_eq_true_eq, decide_eq_false_iff_not, Bool.not_eq_true', Bool.not_eq_false', Bool.not_eq_eq_eq_not, Bool.not_true, Bool.not_false, beq_iff_eq, bne_iff_ne, ne_eq, beq_eq_false_iff_ne, bne_eq_false_iff_eq, gt_iff_lt, ge_iff_le, Int.not_lt, Int.not_le] at hc55
                  rw [if_pos (by omega)] at hR
                  refine c_seq (fun K29 hK29 => ?_)
                  refine c_reg ?_ -- region 17 syntaxm.go:275
                  refine wl (ro_move rfl) ?_
                  refine wl_call rfl en_48 (hS4.next (by omega)) ?_
                  rintro _ u5 ⟨rfl, hS5⟩
                  have ha2 := adv_len' (s := s2) (by omega)
                  refine wl_nil (x_then (hK29 _ _ ?_))
                  clear hK29 K29
                  rcases bdP_some hR with ⟨⟨ee, pp⟩, hq, rfl⟩ | ⟨t3, s3, hq, hR⟩
                  · skip
                    refine c_reg ?_ -- region 18 syntaxm.go:276
                    refine wl (ro_move rfl) ?_
                    refine wl (ro_move rfl) ?_
                    refine wl (ro_arith rfl rfl rfl (Go.IntWalk.i64_in _ (by omega))) ?_
                    refine wl_call rfl en_49 (hS5.bE ih hlv (by omega) hq) ?_
                    rintro v u6 ⟨⟨z, rfl⟩, hE6⟩
                    refine wl (ro_assign rfl) ?_
                    refine wl_nil (x_then ?_)
                    exact ⟨z, .inr ⟨ee, pp, rfl, hE6⟩, kp _ ⟨rfl, rfl, rfl, rfl, rfl, rfl, trivial⟩⟩
                  · skip
                    refine c_reg ?_ -- region 18 syntaxm.go:276
                    refine wl (ro_move rfl) ?_
                    refine wl (ro_move rfl) ?_
                    refine wl (ro_arith rfl rfl rfl (Go.IntWalk.i64_in _ (by omega))) ?_
                    refine wl_call rfl en_49 (hS5.bK ih hlv (by omega) hq) ?_
                    rintro v u6 ⟨U6, G6, rfl, hS6, m6, l6, q6, al6, b6⟩
                    refine wl (ro_assign rfl) ?_
                    refine wl_nil (x_then ?_)
                    exact ⟨_, .inl ⟨U6, G6, s3, t3, Classical.em _, hS6, hR, m6, l6, by omega, rfl⟩, kp _ ⟨rfl, rfl, rfl, rfl, rfl, rfl, trivial⟩⟩
                · try simp only [decide_eq_true_eq, decide_eq_false_iff_not, Bool.not_eq_true', Bool.not_eq_false', Bool.not_eq_eq_eq_not, Bool.not_true, Bool.not_false, beq_iff_eq, bne_iff_ne, ne_eq, beq_eq_false_iff_ne, bne_eq_false_iff_eq, gt_iff_lt, ge_iff_le, Int.not_lt, Int.not_le] at hc55
                  rw [if_neg (by omega)] at hR
                  refine c_skip (x_then ?_)
                  exact ⟨((0 : Nat) : Int), .inl ⟨U4, G4, s2, StL.nil, Classical.em _, hS4, hR, by show _ = _ ++ []; rw [List.append_nil], rfl, by show ndT t1 + ndT t2 + 0 + 3 + 3 * s2.len ≤ _; omega, rfl⟩, kp _ ⟨rfl, rfl, rfl, rfl, rfl, rfl, trivial⟩⟩
              clear hR
              rintro a' u6 ⟨z, hor, e, rfl⟩
              refine c_seq (fun K30 hK30 => ?_)
              rcases hor with ⟨U6, G6, s6, t3, hk | hk, hS6, hR, m6, l6, b6, rfl⟩ | ⟨ee, pp, rfl, hE6⟩
              · skip
                rw [if_pos hk] at hR
                refine c_reg ?_ -- region 19 syntaxm.go:278
                refine wl (ro_move rfl) ?_
                refine wl_call rfl en_211 (hS6.want (k := 9) (by decide) (by decide) (by omega) hk) ?_
                rintro _ u7 ⟨rfl, hS7⟩
                have ha6 := adv_len' (s := s6) (by omega)
                obtain ⟨pos7, hX7, hpos7⟩ := hS7.a.v.ex
                unfold mpc at hX7
                refine wl_nil (x_then (hK30 _ _ ?_))
                clear hK30 K30
                refine c_seq (fun K31 hK31 => ?_)
                refine c_seq (fun K32 hK32 => ?_)
                refine c_reg ?_ -- region 20 syntaxm.go:279
                refine wl (ro_move rfl) ?_
                refine wl (ro_nilCheck rfl) ?_
                refine wl (ro_fieldAddr (k := 9) rfl fo_146_5) ?_
                refine wl (ro_loadB rfl sc_54 (by assumption) rfl) ?_
                refine wl (ro_cmp rfl rfl rfl) ?_
                refine wl_nil (x_then (hK32 _ _ ?_))
                clear hK32 K32
                refine wc_cond rfl (fun hc68 => ?_) (fun hc68 => ?_)
                · try simp only [decide_eq_true_eq, decide_eq_false_iff_not, Bool.not_eq_true', Bool.not_eq_false', Bool.not_eq_eq_eq_not, Bool.not_true, Bool.not_false, beq_iff_eq, bne_iff_ne, ne_eq, beq_eq_false_iff_ne, bne_eq_false_iff_eq, gt_iff_lt, ge_iff_le, Int.not_lt, Int.not_le] at hc68
                  exact absurd rfl hc68
                · try simp only [decide_eq_true_eq, decide_eq_false_iff_not, Bool.not_eq_true', Bool.not_eq_false', Bool.not_eq_eq_eq_not, Bool.not_true, Bool.not_false, beq_iff_eq, bne_iff_ne, ne_eq, beq_eq_false_iff_ne, bne_eq_false_iff_eq, gt_iff_lt, ge_iff_le, Int.not_lt, Int.not_le] at hc68
                  refine c_skip (x_then (hK31 _ _ ?_))
                  clear hK31 K31
                  refine forget [(0, _), (5, _), (6, _), (7, _), (8, _)] ⟨rfl, rfl, rfl, rfl, rfl, trivial⟩ (fun e => ?_)
                  refine c_seq (fun K33 hK33 => ?_)
                  refine c_reg ?_ -- region 22 syntaxm.go:282
                  refine wl (ro_move rfl) ?_
                  refine wl (ro_move rfl) ?_
                  refine wl (ro_move rfl) ?_
                  refine wl (ro_move rfl) ?_
                  refine wl (ro_move rfl) ?_
                  refine wl (ro_build rfl bld_148_0_1_2_3_7) ?_
                  refine wl_call rfl en_162 (hS7.add (x := (⟨6, rt t1 G.length, rt t2 G2.length, rt t3 G4.length, 0, 0, []⟩, s.cur.pl)) (by have := hS7.bd; have := hG.bd; omega)) ?_
                  rintro _ u8 ⟨rfl, U8, hS8⟩
                  refine wl (ro_assign rfl) ?_
                  refine wl_nil (x_then (hK33 _ _ ?_))
                  clear hK33 K33
                  refine c_ret ?_
                  refine bp_ret Tryz.results158 rfl ?_
                  cases okP_inj hR
                  refine hS8.fin ?_ ?_ ?_
                  · rw [List.map_append, m6, m4, m2, l4, l2, lay_iff]
                    simp only [List.append_assoc]
                    rfl
                  · rw [List.length_append]
                    show _ = G.length + (1 + ndT t1 + ndT t2 + ndT t3)
                    simp only [List.length_cons, List.length_nil]
                    omega
                  · show _ = G.length + (1 + ndT t1 + ndT t2 + ndT t3) - 1
                    omega
              · skip
                rw [if_neg hk] at hR
                cases failP_inj hR
                refine c_reg ?_ -- region 19 syntaxm.go:278
                refine wl (ro_move rfl) ?_
                refine wl_call rfl en_211 (hS6.wantN (k := 9) (by decide) (by decide) (by omega) hk) ?_
                rintro _ u7 ⟨rfl, hE7⟩
                obtain ⟨np', src', pos', t', U', al', lo', fu', hXe, h3⟩ := hE7.blk
                unfold mpc at hXe
                refine wl_nil (x_then (hK30 _ _ ?_))
                clear hK30 K30
                refine c_seq (fun K34 hK34 => ?_)
                refine c_seq (fun K35 hK35 => ?_)
                refine c_reg ?_ -- region 20 syntaxm.go:279
                refine wl (ro_move rfl) ?_
                refine wl (ro_nilCheck rfl) ?_
                refine wl (ro_fieldAddr (k := 9) rfl fo_146_5) ?_
                refine wl (ro_loadB rfl sc_54 (by assumption) rfl) ?_
                refine wl (ro_cmp rfl rfl rfl) ?_
                refine wl_nil (x_then (hK35 _ _ ?_))
                clear hK35 K35
                refine wc_cond rfl (fun hc68 => ?_) (fun hc68 => ?_)
                · try simp only [decide_eq_true_eq, decide_eq_false_iff_not, Bool.not_eq_true', Bool.not_eq_false', Bool.not_eq_eq_eq_not, Bool.not_true, Bool.not_false, beq_iff_eq, bne_iff_ne, ne_eq, beq_eq_false_iff_ne, bne_eq_false_iff_eq, gt_iff_lt, ge_iff_le, Int.not_lt, Int.not_le] at hc68
                  refine c_seq (fun K36 hK36 => ?_)
                  refine c_reg ?_ -- region 21 syntaxm.go:280
                  refine wl (ro_assign rfl) ?_
                  refine wl_nil (x_then (hK36 _ _ ?_))
                  clear hK36 K36
                  refine c_ret (x_thenR ?_)
                  refine bp_ret Tryz.results158 rfl ?_
                  exact hE7.mr
                · try simp only [decide_eq_true_eq, decide_eq_false_iff_not, Bool.not_eq_true', Bool.not_eq_false', Bool.not_eq_eq_eq_not, Bool.not_true, Bool.not_false, beq_iff_eq, bne_iff_ne, ne_eq, beq_eq_false_iff_ne, bne_eq_false_iff_eq, gt_iff_lt, ge_iff_le, Int.not_lt, Int.not_le] at hc68
                  omega
              · skip
                refine c_reg ?_ -- region 19 syntaxm.go:278
                refine wl (ro_move rfl) ?_
                refine wl_call rfl en_211 (hE6.want) ?_
                rintro _ u7 ⟨rfl, hE7⟩
                obtain ⟨np', src', pos', t', U', al', lo', fu', hXe, h3⟩ := hE7.blk
                unfold mpc at hXe
                refine wl_nil (x_then (hK30 _ _ ?_))
                clear hK30 K30
                refine c_seq (fun K37 hK37 => ?_)
                refine c_seq (fun K38 hK38 => ?_)
                refine c_reg ?_ -- region 20 syntaxm.go:279
                refine wl (ro_move rfl) ?_
                refine wl (ro_nilCheck rfl) ?_
                refine wl (ro_fieldAddr (k := 9) rfl fo_146_5) ?_
                refine wl (ro_loadB rfl sc_54 (by assumption) rfl) ?_
                refine wl (ro_cmp rfl rfl rfl) ?_
                refine wl_nil (x_then (hK38 _ _ ?_))
                clear hK38 K38
                refine wc_cond rfl (fun hc68 => ?_) (fun hc68 => ?_)
                · try simp only [decide_eq_true_eq, decide_eq_false_iff_not, Bool.not_eq_true', Bool.not_eq_false', Bool.not_eq_eq_eq_not, Bool.not_true, Bool.not_false, beq_iff_eq, bne_iff_ne, ne_eq, beq_eq_false_iff_ne, bne_eq_false_iff_eq, gt_iff_lt, ge_iff_le, Int.not_lt, Int.not_le] at hc68
                  refine c_seq (fun K39 hK39 => ?_)
                  refine c_reg ?_ -- region 21 syntaxm.go:280
                  refine wl (ro_assign rfl) ?_
                  refine wl_nil (x_then (hK39 _ _ ?_))
                  clear hK39 K39
                  refine c_ret (x_thenR ?_)
                  refine bp_ret Tryz.results158 rfl ?_
                  exact hE7.mr
                · try simp only [decide_eq_true_eq, decide_eq_false_iff_not, Bool.not_eq_true', Bool.not_eq_false', Bool.not_eq_eq_eq_not, Bool.not_true, Bool.not_false, beq_iff_eq, bne_iff_ne, ne_eq, beq_eq_false_iff_ne, bne_eq_false_iff_eq, gt_iff_lt, ge_iff_le, Int.not_lt, Int.not_le] at hc68
                  omega
    · skip
      rw [if_neg hk] at hR
      cases failP_inj hR
      refine c_reg ?_ -- region 4 syntaxm.go:258
      refine wl (ro_move rfl) ?_
      refine wl_call rfl en_211 (hS2.wantN (k := 19) (by decide) (by decide) (by omega) hk) ?_
      rintro _ u3 ⟨rfl, hE3⟩
      obtain ⟨np', src', pos', t', U', al', lo', fu', hXe, h3⟩ := hE3.blk
      unfold mpc at hXe
      refine wl_nil (x_then (hK9 _ _ ?_))
      clear hK9 K9
      refine c_seq (fun K40 hK40 => ?_)
      refine c_seq (fun K41 hK41 => ?_)
      refine c_reg ?_ -- region 5 syntaxm.go:259
      refine wl (ro_move rfl) ?_
      refine wl (ro_nilCheck rfl) ?_
      refine wl (ro_fieldAddr (k := 9) rfl fo_146_5) ?_
      refine wl (ro_loadB rfl sc_54 (by assumption) rfl) ?_
      refine wl (ro_cmp rfl rfl rfl) ?_
      refine wl_nil (x_then (hK41 _ _ ?_))
      clear hK41 K41
      refine wc_cond rfl (fun hc26 => ?_) (fun hc26 => ?_)
      · try simp only [decide_eq_true_eq, decide_eq_false_iff_not, Bool.not_eq_true', Bool.not_eq_false', Bool.not_eq_eq_eq_not, Bool.not_true, Bool.not_false, beq_iff_eq, bne_iff_ne, ne_eq, beq_eq_false_iff_ne, bne_eq_false_iff_eq, gt_iff_lt, ge_iff_le, Int.not_lt, Int.not_le] at hc26
        refine c_seq (fun K42 hK42 => ?_)
        refine c_reg ?_ -- region 6 syntaxm.go:260
        refine wl (ro_assign rfl) ?_
        refine wl_nil (x_then (hK42 _ _ ?_))
        clear hK42 K42
        refine c_ret (x_thenR ?_)
        refine bp_ret Tryz.results158 rfl ?_
        exact hE3.mr
      · try simp only [decide_eq_true_eq, decide_eq_false_iff_not, Bool.not_eq_true', Bool.not_eq_false', Bool.not_eq_eq_eq_not, Bool.not_true, Bool.not_false, beq_iff_eq, bne_iff_ne, ne_eq, beq_eq_false_iff_ne, bne_eq_false_iff_eq, gt_iff_lt, ge_iff_le, Int.not_lt, Int.not_le] at hc26
        omega
end Go.Proofs.Qxb6500568aGreatDoor
