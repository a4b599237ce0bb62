import Derived.Test.Qxb6500568aGreatDoorRows
import Derived.Test.Qxb6500568aGreatDoorEc
import Derived.LaidMore
import Derived.Lay
import Derived.ChangeArms
import Derived.MakeChecks
import Derived.FnData
/- The package variables as the row lays them. -/
namespace Go.Proofs.Qxb6500568aGreatDoor
open Go
set_option linter.unusedVariables false
set_option linter.unusedSimpArgs false

def rowLaid : List (String × DataW Unit) := Rows.exactRow.laid
theorem un_192 : Tryz.prog.underlying 192 = some (.slice 9) := by kernel_rfl
theorem un_368 : Tryz.prog.underlying 368 = some (.slice 367) := by kernel_rfl
theorem ce_9 : Tryz.prog.cellsOf 9 = 1 := by kernel_rfl
theorem ce_367 : Tryz.prog.cellsOf 367 = 3 := by kernel_rfl
theorem ce_3 : Tryz.prog.cellsOf 3 = 1 := by kernel_rfl
theorem ce_117 : Tryz.prog.cellsOf 117 = 1 := by kernel_rfl
section
variable {W : World} {fuel : Nat} {p : List MemPlace}
theorem spot_none {a : Addr} {v : Value} (h : W.cell? a = some v) : a = ⟨a.block, a.off, none⟩ ∧ a.block < W.heap.size := by
  unfold World.cell? at h
  cases hb : W.heap[a.block]? with
  | none => rw [hb] at h; cases h
  | some o =>
    have hlt := (Array.getElem?_eq_some_iff.1 hb).1
    rw [hb] at h
    cases o with
    | cells c t f =>
      dsimp only at h
      split at h
      · cases h
      · rename_i hs
        obtain ⟨b, o, s⟩ := a
        cases s with
        | none => exact ⟨rfl, hlt⟩
        | some s => exact absurd rfl hs
    | _ => cases h
theorem cells_1 {a : Addr} {l : List Value} (h : W.cells? 0 a 1 = some l) : ∃ v, l = [v] ∧ W.cell? a = some v := by
  unfold World.cells? at h
  rw [if_pos (Nat.zero_le _)] at h
  simp only [List.range_one, List.mapM_cons, List.mapM_nil, Option.bind_eq_bind, Option.bind_eq_some_iff, Option.pure_def, Option.some.injEq] at h
  obtain ⟨v, h1, _, rfl, rfl⟩ := h
  exact ⟨v, rfl, h1⟩
theorem str_laid {L : List Str} (hne : 0 < L.length) {l : List Value} (h : DataW.trod (fun _ => ()) Tryz.prog W 0 (fun _ => true) false fuel 192 l = some (.slice (L.map fun s => .lit (.string s)) [], p)) :
    ∃ b o cap, l = [.slice (some ⟨b, o, none⟩) L.length cap] ∧ b < W.heap.size ∧ ∀ (i : Nat) s, L[i]? = some s → W.cell? ⟨b, o + i, none⟩ = some (S s) := by
  rcases DataW.trod_slice un_192 h with ⟨_, h2⟩ | ⟨a, len, cap, el, rest, n, rfl, rfl, hx, h1, h2, h3, h4, h5, h6, h7⟩
  · cases h2
  · simp only [Prod.mk.injEq, DataW.slice.injEq] at hx
    obtain ⟨⟨hx, -⟩, -⟩ := hx
    have hl : L.length = len := by have := congrArg List.length hx; simpa [h4] using this
    subst hl
    have key : ∀ (i : Nat) s, L[i]? = some s → W.cell? (a.add i) = some (S s) := by
      intro i s hi
      have hlt := (List.getElem?_eq_some_iff.1 hi).1
      have h8 := h5 i hlt
      rw [ce_9, Nat.mul_one, List.getElem?_eq_getElem (by omega)] at h8
      obtain ⟨cs, h9, h10⟩ := Option.bind_eq_some_iff.1 h8
      obtain ⟨v, rfl, h11⟩ := cells_1 h9
      obtain ⟨z, e1, e2, _⟩ := DataW.trod_string Tryz.underlying9 h10
      have e3 := congrArg (fun q => q[i]?) hx
      simp only [List.getElem?_map, hi, Option.map_some, List.getElem?_eq_getElem (show i < el.length by omega), e2, Option.some.injEq, DataW.lit.injEq, Lit.string.injEq] at e3
      simp only [List.cons.injEq, and_true] at e1
      rw [h11, e1, e3]
      rfl
    obtain ⟨q1, q2⟩ := spot_none (key 0 L[0] (List.getElem?_eq_getElem hne))
    have q1 : a = ⟨a.block, a.off, none⟩ := by
      have := congrArg Addr.spot q1
      obtain ⟨b, o, s⟩ := a
      have this : s = none := this
      rw [this]
    rw [q1] at key ⊢
    exact ⟨a.block, a.off, cap, rfl, q2, fun i s hi => by have := key i s hi; rw [addr_add] at this; exact this⟩
theorem un_367 : ∃ f0 f1 f2, Tryz.prog.underlying 367 = some (.struct #[f0, f1, f2]) ∧ (f0.type = 3 ∧ f0.offset = 0) ∧ (f1.type = 3 ∧ f1.offset = 1) ∧ (f2.type = 117 ∧ f2.offset = 2) := ⟨_, _, _, Tryz.underlying367, ⟨rfl, rfl⟩, ⟨rfl, rfl⟩, ⟨rfl, rfl⟩⟩
theorem cells_3 {a : Addr} {l : List Value} (h : W.cells? 0 a 3 = some l) : ∃ u v x, l = [u, v, x] ∧ W.cell? (a.add 0) = some u ∧ W.cell? (a.add 1) = some v ∧ W.cell? (a.add 2) = some x := by
  unfold World.cells? at h
  rw [if_pos (Nat.zero_le _), show List.range 3 = [0, 1, 2] from rfl] at h
  simp only [List.mapM_cons, List.mapM_nil, Option.bind_eq_bind, Option.bind_eq_some_iff, Option.pure_def, Option.some.injEq] at h
  obtain ⟨u, h1, _, ⟨v, h2, _, ⟨x, h3, _, rfl, rfl⟩, rfl⟩, rfl⟩ := h
  exact ⟨u, v, x, rfl, h1, h2, h3⟩
theorem row_laid {L : List (Int × Int × Int)} (hne : 0 < L.length) {l : List Value} (h : DataW.trod (fun _ => ()) Tryz.prog W 0 (fun _ => true) false fuel 368 l = some (.slice (L.map fun s => .agg [.lit (.int .i64 s.1), .lit (.int .i64 s.2.1), .lit (.int .u64 s.2.2)]) [], p)) :
    ∃ b o cap, l = [.slice (some ⟨b, o, none⟩) L.length cap] ∧ b < W.heap.size ∧ ∀ (i : Nat) s, L[i]? = some s → W.cell? ⟨b, o + i * 3 + 0, none⟩ = some (.int .i64 s.1) ∧ W.cell? ⟨b, o + i * 3 + 1, none⟩ = some (.int .i64 s.2.1) ∧ W.cell? ⟨b, o + i * 3 + 2, none⟩ = some (.int .u64 s.2.2) := by
  rcases DataW.trod_slice un_368 h with ⟨_, h2⟩ | ⟨a, len, cap, el, rest, n, rfl, rfl, hx, h1, h2, h3, h4, h5, h6, h7⟩
  · cases h2
  · simp only [Prod.mk.injEq, DataW.slice.injEq] at hx
    obtain ⟨⟨hx, -⟩, -⟩ := hx
    have hl : L.length = len := by have := congrArg List.length hx; simpa [h4] using this
    subst hl
    have key : ∀ (i : Nat) s, L[i]? = some s → W.cell? ((a.add (i * 3)).add 0) = some (.int .i64 s.1) ∧ W.cell? ((a.add (i * 3)).add 1) = some (.int .i64 s.2.1) ∧ W.cell? ((a.add (i * 3)).add 2) = some (.int .u64 s.2.2) := by
      intro i s hi
      have hlt := (List.getElem?_eq_some_iff.1 hi).1
      have h8 := h5 i hlt
      rw [ce_367, List.getElem?_eq_getElem (by omega)] at h8
      obtain ⟨cs, h9, h10⟩ := Option.bind_eq_some_iff.1 h8
      obtain ⟨u, v, x, rfl, c0, c1, c2⟩ := cells_3 h9
      obtain ⟨f0, f1, f2, hu, ⟨t0, o0⟩, ⟨t1, o1⟩, ⟨t2, o2⟩⟩ := un_367
      obtain ⟨xs, m, rfl, ex, -, hl, hel⟩ := DataW.trod_struct hu h10
      have hl3 : xs.length = 3 := hl
      obtain ⟨y0, y1, y2, rfl⟩ : ∃ y0 y1 y2, xs = [y0, y1, y2] := by
        match xs, hl3 with
        | [a, b, c], _ => exact ⟨a, b, c, rfl⟩
      have k0 := hel 0 f0 rfl
      have k1 := hel 1 f1 rfl
      have k2 := hel 2 f2 rfl
      rw [t0, o0, ce_3] at k0
      rw [t1, o1, ce_3] at k1
      rw [t2, o2, ce_117] at k2
      obtain ⟨z0, a0, b0, _⟩ := DataW.trod_int Tryz.underlying3 k0
      obtain ⟨z1, a1, b1, _⟩ := DataW.trod_int Tryz.underlying3 k1
      obtain ⟨z2, a2, b2, _⟩ := DataW.trod_int Tryz.underlying117 k2
      have e3 := congrArg (fun q => q[i]?) hx
      simp only [List.getElem?_map, hi, Option.map_some, List.getElem?_eq_getElem (show i < el.length by omega), ex, b0, b1, b2, List.map_cons, List.map_nil, Option.some.injEq, DataW.agg.injEq, List.cons.injEq, DataW.lit.injEq, Lit.int.injEq, true_and, and_true] at e3
      obtain ⟨q0, q1, q2⟩ := e3
      have a0 : u = .int .i64 z0 := by simpa using a0
      have a1 : v = .int .i64 z1 := by simpa using a1
      have a2 : x = .int .u64 z2 := by simpa using a2
      rw [c0, c1, c2, a0, a1, a2, q0, q1, q2]
      exact ⟨rfl, rfl, rfl⟩
    obtain ⟨q1, q2⟩ := spot_none (key 0 L[0] (List.getElem?_eq_getElem hne)).1
    have q1 : a = ⟨a.block, a.off, none⟩ := by
      have := congrArg Addr.spot q1
      obtain ⟨b, o, s⟩ := a
      have this : s = none := this
      rw [this]
    rw [q1] at key ⊢
    refine ⟨a.block, a.off, cap, rfl, q2, fun i s hi => ?_⟩
    have := key i s hi
    simp only [addr_add] at this
    exact this
theorem laid_gv (h : laidMetH Tryz.prog rowLaid W) : GV W (fun b => if b < W.heap.size then 9 else 66) := by
  rw [MakeChecks.laidMetH_plain _ _ _ (by kernel_rfl)] at h
  obtain ⟨ps, ⟨g0, t0, cs0, fu0, p0, q0, hg0, ht0, hv0, hd0, ⟨g1, t1, cs1, fu1, p1, q1, hg1, ht1, hv1, hd1, ⟨g2, t2, cs2, fu2, p2, q2, hg2, ht2, hv2, hd2, -, -⟩, -⟩, -⟩, -, -⟩ := h
  obtain rfl := Option.some.inj ((show some 0 = Tryz.prog.globalNamed _ by kernel_rfl).trans hg0)
  obtain rfl := Option.some.inj ((show (Tryz.prog.globals[0]?).map (·.type) = some 192 by kernel_rfl).symm.trans ht0)
  obtain rfl := Option.some.inj ((show some 1 = Tryz.prog.globalNamed _ by kernel_rfl).trans hg1)
  obtain rfl := Option.some.inj ((show (Tryz.prog.globals[1]?).map (·.type) = some 192 by kernel_rfl).symm.trans ht1)
  obtain rfl := Option.some.inj ((show some 3 = Tryz.prog.globalNamed _ by kernel_rfl).trans hg2)
  obtain rfl := Option.some.inj ((show (Tryz.prog.globals[3]?).map (·.type) = some 368 by kernel_rfl).symm.trans ht2)
  have hg : ∀ {g : Nat} {n : String} {cs : Array Value} {v : Value}, Tryz.prog.globalNamed n = some g → W.var? Tryz.prog n = some cs → cs.toList = [v] → W.cell? ⟨g, 0, none⟩ = some v ∧ g < W.heap.size := fun {g n cs v} h1 h2 h3 => by
    have e : W.cell? ⟨g, 0, none⟩ = some v := by rw [World.var?_cell h1 h2 0, ← Array.getElem?_toList, h3]; rfl
    exact ⟨e, (spot_none e).2⟩
  refine ⟨⟨?_, rfl⟩, ⟨?_, rfl⟩, ⟨?_, rfl⟩⟩
  · obtain ⟨b, o, cap, h1, h2, h3⟩ := str_laid (L := kwL) (by decide) (by exact hd0)
    obtain ⟨e1, e2⟩ := hg hg0 hv0 h1
    refine ⟨b, o, cap, e1, fun i r hr j v hv => ?_, e2, h2, if_pos e2, if_pos h2⟩
    rw [List.getElem?_map] at hr
    cases hk : kwL[i]? with
    | none => rw [hk] at hr; cases hr
    | some s =>
      rw [hk] at hr; cases hr
      rcases j with _ | j
      · cases hv
        rw [Nat.mul_one]; exact h3 i s hk
      · cases hv
  · obtain ⟨b, o, cap, h1, h2, h3⟩ := str_laid (L := sgL) (by decide) (by exact hd1)
    obtain ⟨e1, e2⟩ := hg hg1 hv1 h1
    refine ⟨b, o, cap, e1, fun i r hr j v hv => ?_, e2, h2, if_pos e2, if_pos h2⟩
    rw [List.getElem?_map] at hr
    cases hk : sgL[i]? with
    | none => rw [hk] at hr; cases hr
    | some s =>
      rw [hk] at hr; cases hr
      rcases j with _ | j
      · cases hv
        rw [Nat.mul_one]; exact h3 i s hk
      · cases hv
  · obtain ⟨b, o, cap, h1, h2, h3⟩ := row_laid (L := [(1, 25, 0), (2, 24, 0), (3, 22, 11), (3, 22, 12), (3, 22, 13), (3, 22, 14), (3, 22, 15), (3, 22, 16), (4, 22, 20), (5, 22, 1), (5, 22, 2), (6, 22, 3), (6, 22, 4), (6, 22, 5), (6, 22, 6)]) (by decide) (by exact hd2)
    obtain ⟨e1, e2⟩ := hg hg2 hv2 h1
    refine ⟨b, o, cap, e1, fun i r hr j v hv => ?_, e2, h2, if_pos e2, if_pos h2⟩
    have hb : bndL = ([(1, 25, 0), (2, 24, 0), (3, 22, 11), (3, 22, 12), (3, 22, 13), (3, 22, 14), (3, 22, 15), (3, 22, 16), (4, 22, 20), (5, 22, 1), (5, 22, 2), (6, 22, 3), (6, 22, 4), (6, 22, 5), (6, 22, 6)] : List (Int × Int × Int)).map (fun s => [Value.int .i64 s.1, .int .i64 s.2.1, .int .u64 s.2.2]) := rfl
    rw [hb, List.getElem?_map] at hr
    obtain ⟨s, hs, rfl⟩ := Option.map_eq_some_iff.1 hr
    obtain ⟨c0, c1, c2⟩ := h3 i s hs
    rcases j with _ | _ | _ | j
    · cases hv; exact c0
    · cases hv; exact c1
    · cases hv; exact c2
    · cases hv
end
end Go.Proofs.Qxb6500568aGreatDoor
