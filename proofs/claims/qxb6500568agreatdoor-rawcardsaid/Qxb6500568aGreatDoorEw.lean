import Derived.Test.Qxb6500568aGreatDoorEv
/- The real flattener: the arena in memory; one node more. -/
namespace Go.Proofs.Qxb6500568aGreatDoor
open Ieee
set_option linter.unusedVariables false
set_option linter.unusedSimpArgs false

/-- A node's cells; its place in the text is no part of the plain node. -/
def ndc (x : Nd × Nat) : List Value := [i64c x.1.K, i64c x.1.A, i64c x.1.B, i64c x.1.C, i64c x.1.Nx, u64c x.1.N, S x.1.S, i64c x.2]
theorem ndc_len (x : Nd × Nat) : (ndc x).length = 8 := rfl
theorem ndc_one (x : Nd × Nat) : ∀ u ∈ ndc x, u.oneCell' = true := by simp [ndc, Value.oneCell', i64c, u64c, S]
/-- What the flattener may write. -/
def arS (sb : Nat) (U : Value) : Nat → Prop := fun b => b = sb ∨ own1 U b
/-- The arena. -/
structure ArV (w : World) (ow : Nat → Nat) (sb : Nat) (c0 c1 U : Value) (G : List (Nd × Nat)) : Prop where
  st : Blk w.heap sb [c0, c1, U] 79
  own : Own w.heap U 148 8 G.length (rws ndc G)
  ne : ¬ own1 U sb
  s3 : ow sb ≠ 63
  u3 : ∀ b, own1 U b → ow b ≠ 63
  n3 : ∀ b, w.heap.size ≤ b → ow b ≠ 63
  z0 : ∃ y r, G = (y, 0) :: r
section
variable {w w' : World} {ow : Nat → Nat} {sb : Nat} {c0 c1 U U' : Value} {G G' : List (Nd × Nat)} {md : Nat} {t : Tr} {vs : List Value} {V : Value}
theorem ArV.far {S : Nat → Prop} (h : ArV w ow sb c0 c1 U G) (f : Fram S w w') (h1 : ¬ S sb) (h2 : ∀ b, own1 U b → ¬ S b) : ArV w' ow sb c0 c1 U G :=
  ⟨h.st.fram f h1, h.own.fram f h2, h.ne, h.s3, h.u3, fun b hb => h.n3 b (Nat.le_trans f.size hb), h.z0⟩
theorem ArV.farN (h : ArV w ow sb c0 c1 U G) (f : Fram none' w w') : ArV w' ow sb c0 c1 U G := h.far f (fun h => h) (fun _ _ h => h)
theorem ArV.no (h : ArV w ow sb c0 c1 U G) {b : Nat} (hb : ow b = 63) : ¬ arS sb U b := fun q => by
  rcases q with q | q
  · rw [q] at hb; exact h.s3 hb
  · exact h.u3 b q hb
theorem TrM.ar (h : TrM w ow md t vs) (hA : ArV w ow sb c0 c1 U G) (f : Fram (arS sb U) w w') : TrM w' ow md t vs := h.far f (fun b hb _ => hA.no hb) (Xt.refl _ _)
theorem SlM.ar (h : SlM w ow V vs) (hA : ArV w ow sb c0 c1 U G) (f : Fram (arS sb U) w w') : SlM w' ow V vs := OwT.far h f (fun b hb _ => hA.no hb) (Xt.refl _ _)
theorem NB.ar {b : Nat} {cs : List Value} {ty : TypeId} (h : NB w ow b cs ty) (hA : ArV w ow sb c0 c1 U G) (f : Fram (arS sb U) w w') : NB w' ow b cs ty := h.far2 f (fun b hb _ => hA.no hb) (fun _ _ h => h)
theorem nmM.ar {l : List Str} (h : nmM w ow l vs) (hA : ArV w ow sb c0 c1 U G) (f : Fram (arS sb U) w w') : nmM w' ow l vs := nmM.farG f (fun b hb _ => hA.no hb) h
theorem ElM.ar {ts : List Tr} (h : ElM w ow md ts vs) (hA : ArV w ow sb c0 c1 U G) (f : Fram (arS sb U) w w') : ElM w' ow md ts vs := ElM.far2 f (fun b hb _ => hA.no hb) (fun _ _ h => h) h
end
/-- What the flattener answers: l was laid behind G, and the answer is r. -/
def ArR (w : World) (ow : Nat → Nat) (sb : Nat) (c0 c1 U : Value) (G : List (Nd × Nat)) (r : Nat) (l : List Nd) (m : Nat) (v : Value) (w' : World) : Prop :=
  v = i64c r ∧ ∃ U' G', ArV w' ow sb c0 c1 U' G' ∧ G'.map Prod.fst = G.map Prod.fst ++ l ∧ G'.length = G.length + m ∧ nob U U' w ∧ Fram (arS sb U) w w'
set_option maxHeartbeats 4000000 in
theorem add227 {w : World} {ow : Nat → Nat} {sb : Nat} {c0 c1 U : Value} {G : List (Nd × Nat)} {x : Nd × Nat} (hA : ArV w ow sb c0 c1 U G) (hl : G.length < 1000000000) :
    Ret Tryz.prog 227 [ptr sb, .agg (ndc x).toArray] w (ArR w ow sb c0 c1 U G G.length [x.1] 1) := by
  obtain ⟨ua, uc, rfl⟩ := hA.own.form
  have hX := hA.st
  have hXl := hX.lt
  have hF : Fram none' w w := Fram.refl _ _
  have hob : ∀ b, own1 (.slice ua G.length uc) b → b ≠ sb ∧ b < w.heap.size := fun b hb => ⟨fun e => hA.ne (e ▸ hb), hA.own.lt hb⟩
  refine ret_of Tryz.func227 rfl Tryz.ntmps227 rfl ?_
  refine c_seq (fun K1 hK1 => ?_)
  refine c_reg ?_ -- region 0 flat.go:8
  refine wl_box (cs := (ndc x)) rfl rfl (fun b3 w1 hbb3 h3 F1 => ?_)
  have hnesbb3 : sb < b3 := Nat.lt_of_lt_of_le hX.lt hbb3
  have hbsb3 := Nat.le_trans hF.size hbb3
  replace hX := F1.blkN hX
  replace hF := hF.thenDrew.thenN F1
  refine wl (ro_assign rfl) ?_
  refine wl_nil (x_then (hK1 _ _ ?_))
  clear hK1 K1
  refine forget [(0, _), (3, _)] ⟨rfl, rfl, trivial⟩ (fun e => ?_)
  refine c_seq (fun K2 hK2 => ?_)
  refine c_piL 10 [(0, false), (1, false), (2, false), (3, false), (4, false), (5, false), (6, true), (7, true), (8, false), (9, false)] (fun u => Blk u.heap sb [c0, c1, .slice ua G.length uc] 79 ∧ Blk u.heap b3 (ndc x) 148) mixed (by kernel_rfl) rfl (by kernel_rfl) (po_then (po_bp)) (⟨hX, h3⟩) ?_ -- region 1 flat.go:9
  refine ql_ro rfl (fun w hS => ro_move rfl) ?_
  refine ql_ro rfl (fun w hS => ro_move rfl) ?_
  refine ql_ro rfl (fun w hS => ro_nilCheck rfl) ?_
  refine ql_ro rfl (fun w hS => ro_fieldAddr (k := 2) rfl fo_79_2) ?_
  refine ql_ro rfl (fun w hS => ro_loadB rfl sc_77 (hS.1) rfl) ?_
  refine ql_ro rfl (fun w hS => ro_loadAggB rfl ag_148 (hS.2) (rfl) (rfl)) ?_
  refine ql_bsapp (t := 77) (et := 148) (k := 8) (m := G.length) (cs := ndc x) rfl rfl rfl rfl rfl rfl se_77 zx_148 by_148 rfl rfl rfl (ndc_one _) (hA.own.fram hF.thenDrew (fun _ _ h => h)) (by omega) (by omega) (fun w1 F ↦ ⟨F.blkN hX, F.blkN h3⟩) (fun w1 F ↦ ⟨F.blkF hX (fun q ↦ (hob _ q).1 rfl), F.blkF h3 (fun q ↦ by have := hob _ q; omega)⟩) ?_
  intro v' u1 hon G1 hnb
  obtain ⟨a3, c3, rfl⟩ := hon.form
  replace hX := G1.blkF hX (fun q => (hob _ q).1 rfl)
  have hz := hF.size
  have hFt : Fram (arS sb (.slice ua G.length uc)) w u1 := hF.wide.thenDrew.trans' G1 (fun b _ q => .inr q)
  have hmsb : arS sb (.slice ua G.length uc) sb := .inl rfl
  have hnb' : ∀ b, own1 (.slice a3 (G.length + 1) c3) b → own1 (.slice ua G.length uc) b ∨ w.heap.size ≤ b := fun b q => by
    rcases hnb b q with q | q
    · exact .inl q
    · exact .inr (Nat.le_trans hz q)
  have hon2 : Own u1.heap (.slice a3 (G.length + 1) c3) 148 8 (G ++ [x]).length (rws ndc (G ++ [x])) := by
    have e : rws ndc (G ++ [x]) = rws ndc G ++ ndc x := by unfold rws; simp
    rw [e, List.length_append]; exact hon
  have hne3 : ¬ own1 (.slice a3 (G.length + 1) c3) sb := fun q => by
    rcases hnb' _ q with q | q
    · exact (hob _ q).1 rfl
    · omega
  skip
  refine ql_ro rfl (fun w hS => ro_nilCheck rfl) ?_
  refine ql_ro rfl (fun w hS => ro_fieldAddr (k := 2) rfl fo_79_2) ?_
  refine ql_put rfl rfl rfl rfl sz_77 hX (by simp) (rfl) (fun w2 hX F2 => ?_)
  replace hFt := hFt.thenDrew.thenO F2 (by first | exact .inr (by omega) | exact .inl rfl | exact .inl (by assumption) | assumption)
  have hA2 : Own (w2).heap (.slice a3 (G.length + 1) c3) 148 8 (G ++ [x]).length (rws ndc (G ++ [x])) := hon2.fram ((Fram.refl (one sb) _).thenDrew.thenO F2 (.inl rfl)) (fun b q e => hne3 (by have e : b = sb := e; rw [← e]; exact q))
  refine x_then (hK2 _ _ ?_)
  clear hK2 K2
  refine forget [(0, _)] ⟨rfl, trivial⟩ (fun e => ?_)
  refine c_seq (fun K3 hK3 => ?_)
  refine c_reg ?_ -- region 2 flat.go:10
  refine wl (ro_move rfl) ?_
  refine wl (ro_nilCheck rfl) ?_
  refine wl (ro_fieldAddr (k := 2) rfl fo_79_2) ?_
  refine wl (ro_loadB rfl sc_77 (by assumption) rfl) ?_
  refine wl (ro_lenL rfl se_77) ?_
  refine wl (ro_arith (r := (G.length : Int)) rfl rfl (congrArg some (by show ((G.length + 1 : Nat) : Int) - 1 = _; omega)) (Go.IntWalk.i64_in _ (by omega))) ?_
  refine wl (ro_assign rfl) ?_
  refine wl_nil (x_then (hK3 _ _ ?_))
  clear hK3 K3
  refine c_ret ?_
  refine bp_ret Tryz.results227 rfl ?_
  refine ⟨rfl, _, G ++ [x], ⟨hX, hA2, hne3, hA.s3, fun b q => ?_, fun b q => hA.n3 b (Nat.le_trans hFt.size q), by obtain ⟨y, r, e⟩ := hA.z0; exact ⟨y, r ++ [x], by rw [e]; rfl⟩⟩, by rw [List.map_append]; rfl, by rw [List.length_append]; rfl, hnb', hFt⟩
  rcases hnb' b q with q | q
  · exact hA.u3 b q
  · exact hA.n3 b q
end Go.Proofs.Qxb6500568aGreatDoor
