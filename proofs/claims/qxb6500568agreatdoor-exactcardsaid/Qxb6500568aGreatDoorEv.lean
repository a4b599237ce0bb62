import Derived.Test.Qxb6500568aGreatDoorEu
/- Calls of a method through an interface; the method Pos of every node. Written by tools/mk_Ev.py. -/
namespace Go.Proofs.Qxb6500568aGreatDoor
open Ieee
set_option linter.unusedVariables false
set_option linter.unusedSimpArgs false

section
variable {P : Program} {n : Nat} {e : Nat → Option Value} {ops : Array Oper} {w : World} {Q : Exit → Act → World → Prop} {rest : List Oper} {d : Nat} {ty : TypeId} {ps : String} {af : Array Edge} {ds : List Deferred}
theorem run_inv {f : FuncId} {x : Operand} {T : TypeId} {nm : String} {v : Value} {ats : Array TypeId} (hx : evO n e x = some (.iface T v)) (hm : (callMethod (.iface T v) nm #[]).run P w = .ok (.enter f #[v]) w) (dst : Option Tmp) (ty : TypeId) (ps : String) (af : Array Edge) (g : Option (Nat × Bool)) :
    (execOp (Fr n e ds).eval ⟨dst, .call ⟨.invoke x nm, #[], ats⟩, ty, ps, af, g⟩).run P w = .ok (.enter f #[v]) w := by
  simp [execOp, resolve, evO_eval hx, invoke]
  exact hm
theorem wl_inv {f : FuncId} {x : Operand} {T : TypeId} {nm : String} {v : Value} {ats : Array TypeId} {R : Value → World → Prop} (hx : evO n e x = some (.iface T v)) (hm : (callMethod (.iface T v) nm #[]).run P w = .ok (.enter f #[v]) w) (hc : Ret P f [v] w R)
    (k : ∀ r w', R r w' → WL P ops Q rest (Fr n (upd e d r) ds) w') : WL P ops Q (⟨some d, .call ⟨.invoke x nm, #[], ats⟩, ty, ps, af, none⟩ :: rest) (Fr n e ds) w := by
  refine ⟨wpList_plain rfl fun K hK => ?_⟩
  unfold Oper.wp
  rw [run_inv hx hm]
  simp only [Oper.upon]
  refine Calls.mono hc fun en w' ⟨v, he, hv⟩ => ?_
  subst he
  simp only [put_some]
  exact hK _ _ (k v w' hv).out
end
theorem rws1 : ∀ l : List Value, rws (fun v => [v]) l = l
  | [] => rfl
  | x :: l => by
    have := rws1 l
    unfold rws at this ⊢
    simp only [List.flatMap_cons, List.singleton_append, this]
theorem SlM.at0 {w : World} {ow : Nat → Nat} {V v : Value} {vs : List Value} {i : Nat} (h : SlM w ow V vs) (hi : vs[i]? = some v) :
    ∃ g cap l, V = .slice (some ⟨g, 0, none⟩) vs.length cap ∧ Blk w.heap g l 242 ∧ ow g = 63 ∧ ∀ (j : Nat) y, vs[j]? = some y → l[0 + j * 1]? = some y := by
  have h : OwT w ow 63 V 242 1 vs.length (rws (fun v => [v]) vs) := by rw [rws1]; exact h
  obtain ⟨g, cap, l, h1, h2, h3, h4, h5, h6, h7⟩ := OwT.at (enc := fun v => [v]) (fun _ => rfl) h hi
  refine ⟨g, cap, l, h1, h2, h6, fun j y hj => ?_⟩
  have := h7 j y hj
  have e : l[0 + j * 1]? = (l.drop (0 + j * 1))[0]? := by rw [List.getElem?_drop, Nat.add_zero]
  rw [e]
  cases hd : l.drop (0 + j * 1) with
  | nil => rw [hd] at this; cases this
  | cons a r => rw [hd] at this; injection this with this _; rw [this]; rfl
/-- The place of a node. -/
def PosR (w : World) (v : Value) : Prop := ∃ T b f, v = .iface T (ptr b) ∧ (callMethod (.iface T (ptr b)) "Pos" #[]).run Tryz.prog w = .ok (.enter f #[ptr b]) w ∧ Ret Tryz.prog f [ptr b] w (fun r w' => (∃ p : Nat, r = i64c p) ∧ w' = w)
theorem wl_pos {n : Nat} {e : Nat → Option Value} {ops : Array Oper} {w : World} {Q : Exit → Act → World → Prop} {rest : List Oper} {d : Nat} {ty : TypeId} {ps : String} {af : Array Edge} {ds : List Deferred} {x : Operand} {v : Value} {ats : Array TypeId} (hx : evO n e x = some v) (hp : PosR w v)
    (k : ∀ p : Nat, WL Tryz.prog ops Q rest (Fr n (upd e d (i64c p)) ds) w) : WL Tryz.prog ops Q (⟨some d, .call ⟨.invoke x "Pos", #[], ats⟩, ty, ps, af, none⟩ :: rest) (Fr n e ds) w := by
  obtain ⟨T, b, f, rfl, hm, hc⟩ := hp
  refine wl_inv hx hm hc ?_
  rintro r w' ⟨⟨p, rfl⟩, rfl⟩
  exact k p

theorem pos326 {w : World} {b p : Nat} {x y : Value} (h : Blk w.heap b [i64c p, x, y] 373) : Ret Tryz.prog 326 [ptr b] w (fun r w' => (∃ p : Nat, r = i64c p) ∧ w' = w) := by
  refine ret_of Tryz.func326 rfl Tryz.ntmps326 rfl ?_
  refine c_seq (fun K1 hK1 => ?_)
  refine c_reg ?_ -- region 0 ast.go:133
  refine wl (ro_assign rfl) ?_
  refine wl_nil (x_then (hK1 _ _ ?_))
  clear hK1 K1
  refine forget [(0, _)] ⟨rfl, trivial⟩ (fun e => ?_)
  refine c_seq (fun K2 hK2 => ?_)
  refine c_reg ?_ -- region 1 ast.go:133
  refine wl (ro_move rfl) ?_
  refine wl (ro_nilCheck rfl) ?_
  refine wl (ro_fieldAddr (k := 0) rfl fo_373_0) ?_
  refine wl (ro_loadB rfl sc_3 (by assumption) rfl) ?_
  refine wl (ro_assign rfl) ?_
  refine wl_nil (x_then (hK2 _ _ ?_))
  clear hK2 K2
  refine c_ret ?_
  refine bp_ret Tryz.results326 rfl ?_
  exact ⟨⟨_, rfl⟩, rfl⟩
theorem posR239 {w : World} {b p : Nat} {x y : Value} (h : Blk w.heap b [i64c p, x, y] 373) : PosR w (.iface 239 (ptr b)) := ⟨239, b, 326, rfl, by kernel_rfl, pos326 h⟩
theorem pos328 {w : World} {b p : Nat} (h : Blk w.heap b [i64c p] 297) : Ret Tryz.prog 328 [ptr b] w (fun r w' => (∃ p : Nat, r = i64c p) ∧ w' = w) := by
  refine ret_of Tryz.func328 rfl Tryz.ntmps328 rfl ?_
  refine c_seq (fun K1 hK1 => ?_)
  refine c_reg ?_ -- region 0 ast.go:134
  refine wl (ro_assign rfl) ?_
  refine wl_nil (x_then (hK1 _ _ ?_))
  clear hK1 K1
  refine forget [(0, _)] ⟨rfl, trivial⟩ (fun e => ?_)
  refine c_seq (fun K2 hK2 => ?_)
  refine c_reg ?_ -- region 1 ast.go:134
  refine wl (ro_move rfl) ?_
  refine wl (ro_nilCheck rfl) ?_
  refine wl (ro_fieldAddr (k := 0) rfl fo_297_0) ?_
  refine wl (ro_loadB rfl sc_3 (by assumption) rfl) ?_
  refine wl (ro_assign rfl) ?_
  refine wl_nil (x_then (hK2 _ _ ?_))
  clear hK2 K2
  refine c_ret ?_
  refine bp_ret Tryz.results328 rfl ?_
  exact ⟨⟨_, rfl⟩, rfl⟩
theorem posR240 {w : World} {b p : Nat} (h : Blk w.heap b [i64c p] 297) : PosR w (.iface 240 (ptr b)) := ⟨240, b, 328, rfl, by kernel_rfl, pos328 h⟩
theorem pos330 {w : World} {b p : Nat} {x y : Value} (h : Blk w.heap b [i64c p, x, y] 295) : Ret Tryz.prog 330 [ptr b] w (fun r w' => (∃ p : Nat, r = i64c p) ∧ w' = w) := by
  refine ret_of Tryz.func330 rfl Tryz.ntmps330 rfl ?_
  refine c_seq (fun K1 hK1 => ?_)
  refine c_reg ?_ -- region 0 ast.go:130
  refine wl (ro_assign rfl) ?_
  refine wl_nil (x_then (hK1 _ _ ?_))
  clear hK1 K1
  refine forget [(0, _)] ⟨rfl, trivial⟩ (fun e => ?_)
  refine c_seq (fun K2 hK2 => ?_)
  refine c_reg ?_ -- region 1 ast.go:130
  refine wl (ro_move rfl) ?_
  refine wl (ro_nilCheck rfl) ?_
  refine wl (ro_fieldAddr (k := 0) rfl fo_295_0) ?_
  refine wl (ro_loadB rfl sc_3 (by assumption) rfl) ?_
  refine wl (ro_assign rfl) ?_
  refine wl_nil (x_then (hK2 _ _ ?_))
  clear hK2 K2
  refine c_ret ?_
  refine bp_ret Tryz.results330 rfl ?_
  exact ⟨⟨_, rfl⟩, rfl⟩
theorem posR293 {w : World} {b p : Nat} {x y : Value} (h : Blk w.heap b [i64c p, x, y] 295) : PosR w (.iface 293 (ptr b)) := ⟨293, b, 330, rfl, by kernel_rfl, pos330 h⟩
theorem pos332 {w : World} {b p : Nat} {x y : Value} (h : Blk w.heap b [i64c p, x, y] 380) : Ret Tryz.prog 332 [ptr b] w (fun r w' => (∃ p : Nat, r = i64c p) ∧ w' = w) := by
  refine ret_of Tryz.func332 rfl Tryz.ntmps332 rfl ?_
  refine c_seq (fun K1 hK1 => ?_)
  refine c_reg ?_ -- region 0 ast.go:120
  refine wl (ro_assign rfl) ?_
  refine wl_nil (x_then (hK1 _ _ ?_))
  clear hK1 K1
  refine forget [(0, _)] ⟨rfl, trivial⟩ (fun e => ?_)
  refine c_seq (fun K2 hK2 => ?_)
  refine c_reg ?_ -- region 1 ast.go:120
  refine wl (ro_move rfl) ?_
  refine wl (ro_nilCheck rfl) ?_
  refine wl (ro_fieldAddr (k := 0) rfl fo_380_0) ?_
  refine wl (ro_loadB rfl sc_3 (by assumption) rfl) ?_
  refine wl (ro_assign rfl) ?_
  refine wl_nil (x_then (hK2 _ _ ?_))
  clear hK2 K2
  refine c_ret ?_
  refine bp_ret Tryz.results332 rfl ?_
  exact ⟨⟨_, rfl⟩, rfl⟩
theorem posR300 {w : World} {b p : Nat} {x y : Value} (h : Blk w.heap b [i64c p, x, y] 380) : PosR w (.iface 300 (ptr b)) := ⟨300, b, 332, rfl, by kernel_rfl, pos332 h⟩
theorem pos336 {w : World} {b p : Nat} {x : Value} (h : Blk w.heap b [i64c p, x] 349) : Ret Tryz.prog 336 [ptr b] w (fun r w' => (∃ p : Nat, r = i64c p) ∧ w' = w) := by
  refine ret_of Tryz.func336 rfl Tryz.ntmps336 rfl ?_
  refine c_seq (fun K1 hK1 => ?_)
  refine c_reg ?_ -- region 0 ast.go:118
  refine wl (ro_assign rfl) ?_
  refine wl_nil (x_then (hK1 _ _ ?_))
  clear hK1 K1
  refine forget [(0, _)] ⟨rfl, trivial⟩ (fun e => ?_)
  refine c_seq (fun K2 hK2 => ?_)
  refine c_reg ?_ -- region 1 ast.go:118
  refine wl (ro_move rfl) ?_
  refine wl (ro_nilCheck rfl) ?_
  refine wl (ro_fieldAddr (k := 0) rfl fo_349_0) ?_
  refine wl (ro_loadB rfl sc_3 (by assumption) rfl) ?_
  refine wl (ro_assign rfl) ?_
  refine wl_nil (x_then (hK2 _ _ ?_))
  clear hK2 K2
  refine c_ret ?_
  refine bp_ret Tryz.results336 rfl ?_
  exact ⟨⟨_, rfl⟩, rfl⟩
theorem posR305 {w : World} {b p : Nat} {x : Value} (h : Blk w.heap b [i64c p, x] 349) : PosR w (.iface 305 (ptr b)) := ⟨305, b, 336, rfl, by kernel_rfl, pos336 h⟩
theorem pos338 {w : World} {b p : Nat} {x y : Value} (h : Blk w.heap b [i64c p, x, y] 377) : Ret Tryz.prog 338 [ptr b] w (fun r w' => (∃ p : Nat, r = i64c p) ∧ w' = w) := by
  refine ret_of Tryz.func338 rfl Tryz.ntmps338 rfl ?_
  refine c_seq (fun K1 hK1 => ?_)
  refine c_reg ?_ -- region 0 ast.go:119
  refine wl (ro_assign rfl) ?_
  refine wl_nil (x_then (hK1 _ _ ?_))
  clear hK1 K1
  refine forget [(0, _)] ⟨rfl, trivial⟩ (fun e => ?_)
  refine c_seq (fun K2 hK2 => ?_)
  refine c_reg ?_ -- region 1 ast.go:119
  refine wl (ro_move rfl) ?_
  refine wl (ro_nilCheck rfl) ?_
  refine wl (ro_fieldAddr (k := 0) rfl fo_377_0) ?_
  refine wl (ro_loadB rfl sc_3 (by assumption) rfl) ?_
  refine wl (ro_assign rfl) ?_
  refine wl_nil (x_then (hK2 _ _ ?_))
  clear hK2 K2
  refine c_ret ?_
  refine bp_ret Tryz.results338 rfl ?_
  exact ⟨⟨_, rfl⟩, rfl⟩
theorem posR306 {w : World} {b p : Nat} {x y : Value} (h : Blk w.heap b [i64c p, x, y] 377) : PosR w (.iface 306 (ptr b)) := ⟨306, b, 338, rfl, by kernel_rfl, pos338 h⟩
theorem pos340 {w : World} {b p : Nat} {x y : Value} (h : Blk w.heap b [i64c p, x, y] 309) : Ret Tryz.prog 340 [ptr b] w (fun r w' => (∃ p : Nat, r = i64c p) ∧ w' = w) := by
  refine ret_of Tryz.func340 rfl Tryz.ntmps340 rfl ?_
  refine c_seq (fun K1 hK1 => ?_)
  refine c_reg ?_ -- region 0 ast.go:127
  refine wl (ro_assign rfl) ?_
  refine wl_nil (x_then (hK1 _ _ ?_))
  clear hK1 K1
  refine forget [(0, _)] ⟨rfl, trivial⟩ (fun e => ?_)
  refine c_seq (fun K2 hK2 => ?_)
  refine c_reg ?_ -- region 1 ast.go:127
  refine wl (ro_move rfl) ?_
  refine wl (ro_nilCheck rfl) ?_
  refine wl (ro_fieldAddr (k := 0) rfl fo_309_0) ?_
  refine wl (ro_loadB rfl sc_3 (by assumption) rfl) ?_
  refine wl (ro_assign rfl) ?_
  refine wl_nil (x_then (hK2 _ _ ?_))
  clear hK2 K2
  refine c_ret ?_
  refine bp_ret Tryz.results340 rfl ?_
  exact ⟨⟨_, rfl⟩, rfl⟩
theorem posR307 {w : World} {b p : Nat} {x y : Value} (h : Blk w.heap b [i64c p, x, y] 309) : PosR w (.iface 307 (ptr b)) := ⟨307, b, 340, rfl, by kernel_rfl, pos340 h⟩
theorem pos342 {w : World} {b p : Nat} {x y z : Value} (h : Blk w.heap b [i64c p, x, y, z] 388) : Ret Tryz.prog 342 [ptr b] w (fun r w' => (∃ p : Nat, r = i64c p) ∧ w' = w) := by
  refine ret_of Tryz.func342 rfl Tryz.ntmps342 rfl ?_
  refine c_seq (fun K1 hK1 => ?_)
  refine c_reg ?_ -- region 0 ast.go:121
  refine wl (ro_assign rfl) ?_
  refine wl_nil (x_then (hK1 _ _ ?_))
  clear hK1 K1
  refine forget [(0, _)] ⟨rfl, trivial⟩ (fun e => ?_)
  refine c_seq (fun K2 hK2 => ?_)
  refine c_reg ?_ -- region 1 ast.go:121
  refine wl (ro_move rfl) ?_
  refine wl (ro_nilCheck rfl) ?_
  refine wl (ro_fieldAddr (k := 0) rfl fo_388_0) ?_
  refine wl (ro_loadB rfl sc_3 (by assumption) rfl) ?_
  refine wl (ro_assign rfl) ?_
  refine wl_nil (x_then (hK2 _ _ ?_))
  clear hK2 K2
  refine c_ret ?_
  refine bp_ret Tryz.results342 rfl ?_
  exact ⟨⟨_, rfl⟩, rfl⟩
theorem posR346 {w : World} {b p : Nat} {x y z : Value} (h : Blk w.heap b [i64c p, x, y, z] 388) : PosR w (.iface 346 (ptr b)) := ⟨346, b, 342, rfl, by kernel_rfl, pos342 h⟩
theorem pos348 {w : World} {b p : Nat} {x y z : Value} (h : Blk w.heap b [i64c p, x, y, z] 359) : Ret Tryz.prog 348 [ptr b] w (fun r w' => (∃ p : Nat, r = i64c p) ∧ w' = w) := by
  refine ret_of Tryz.func348 rfl Tryz.ntmps348 rfl ?_
  refine c_seq (fun K1 hK1 => ?_)
  refine c_reg ?_ -- region 0 ast.go:129
  refine wl (ro_assign rfl) ?_
  refine wl_nil (x_then (hK1 _ _ ?_))
  clear hK1 K1
  refine forget [(0, _)] ⟨rfl, trivial⟩ (fun e => ?_)
  refine c_seq (fun K2 hK2 => ?_)
  refine c_reg ?_ -- region 1 ast.go:129
  refine wl (ro_move rfl) ?_
  refine wl (ro_nilCheck rfl) ?_
  refine wl (ro_fieldAddr (k := 0) rfl fo_359_0) ?_
  refine wl (ro_loadB rfl sc_3 (by assumption) rfl) ?_
  refine wl (ro_assign rfl) ?_
  refine wl_nil (x_then (hK2 _ _ ?_))
  clear hK2 K2
  refine c_ret ?_
  refine bp_ret Tryz.results348 rfl ?_
  exact ⟨⟨_, rfl⟩, rfl⟩
theorem posR357 {w : World} {b p : Nat} {x y z : Value} (h : Blk w.heap b [i64c p, x, y, z] 359) : PosR w (.iface 357 (ptr b)) := ⟨357, b, 348, rfl, by kernel_rfl, pos348 h⟩
theorem pos354 {w : World} {b p : Nat} {x y z u : Value} (h : Blk w.heap b [i64c p, x, y, z, u] 371) : Ret Tryz.prog 354 [ptr b] w (fun r w' => (∃ p : Nat, r = i64c p) ∧ w' = w) := by
  refine ret_of Tryz.func354 rfl Tryz.ntmps354 rfl ?_
  refine c_seq (fun K1 hK1 => ?_)
  refine c_reg ?_ -- region 0 ast.go:123
  refine wl (ro_assign rfl) ?_
  refine wl_nil (x_then (hK1 _ _ ?_))
  clear hK1 K1
  refine forget [(0, _)] ⟨rfl, trivial⟩ (fun e => ?_)
  refine c_seq (fun K2 hK2 => ?_)
  refine c_reg ?_ -- region 1 ast.go:123
  refine wl (ro_move rfl) ?_
  refine wl (ro_nilCheck rfl) ?_
  refine wl (ro_fieldAddr (k := 0) rfl fo_371_0) ?_
  refine wl (ro_loadB rfl sc_3 (by assumption) rfl) ?_
  refine wl (ro_assign rfl) ?_
  refine wl_nil (x_then (hK2 _ _ ?_))
  clear hK2 K2
  refine c_ret ?_
  refine bp_ret Tryz.results354 rfl ?_
  exact ⟨⟨_, rfl⟩, rfl⟩
theorem posR369 {w : World} {b p : Nat} {x y z u : Value} (h : Blk w.heap b [i64c p, x, y, z, u] 371) : PosR w (.iface 369 (ptr b)) := ⟨369, b, 354, rfl, by kernel_rfl, pos354 h⟩
theorem pos356 {w : World} {b p : Nat} {x : Value} (h : Blk w.heap b [i64c p, x] 375) : Ret Tryz.prog 356 [ptr b] w (fun r w' => (∃ p : Nat, r = i64c p) ∧ w' = w) := by
  refine ret_of Tryz.func356 rfl Tryz.ntmps356 rfl ?_
  refine c_seq (fun K1 hK1 => ?_)
  refine c_reg ?_ -- region 0 ast.go:117
  refine wl (ro_assign rfl) ?_
  refine wl_nil (x_then (hK1 _ _ ?_))
  clear hK1 K1
  refine forget [(0, _)] ⟨rfl, trivial⟩ (fun e => ?_)
  refine c_seq (fun K2 hK2 => ?_)
  refine c_reg ?_ -- region 1 ast.go:117
  refine wl (ro_move rfl) ?_
  refine wl (ro_nilCheck rfl) ?_
  refine wl (ro_fieldAddr (k := 0) rfl fo_375_0) ?_
  refine wl (ro_loadB rfl sc_3 (by assumption) rfl) ?_
  refine wl (ro_assign rfl) ?_
  refine wl_nil (x_then (hK2 _ _ ?_))
  clear hK2 K2
  refine c_ret ?_
  refine bp_ret Tryz.results356 rfl ?_
  exact ⟨⟨_, rfl⟩, rfl⟩
theorem posR374 {w : World} {b p : Nat} {x : Value} (h : Blk w.heap b [i64c p, x] 375) : PosR w (.iface 374 (ptr b)) := ⟨374, b, 356, rfl, by kernel_rfl, pos356 h⟩
theorem pos358 {w : World} {b p : Nat} {x : Value} (h : Blk w.heap b [i64c p, x] 383) : Ret Tryz.prog 358 [ptr b] w (fun r w' => (∃ p : Nat, r = i64c p) ∧ w' = w) := by
  refine ret_of Tryz.func358 rfl Tryz.ntmps358 rfl ?_
  refine c_seq (fun K1 hK1 => ?_)
  refine c_reg ?_ -- region 0 ast.go:115
  refine wl (ro_assign rfl) ?_
  refine wl_nil (x_then (hK1 _ _ ?_))
  clear hK1 K1
  refine forget [(0, _)] ⟨rfl, trivial⟩ (fun e => ?_)
  refine c_seq (fun K2 hK2 => ?_)
  refine c_reg ?_ -- region 1 ast.go:115
  refine wl (ro_move rfl) ?_
  refine wl (ro_nilCheck rfl) ?_
  refine wl (ro_fieldAddr (k := 0) rfl fo_383_0) ?_
  refine wl (ro_loadB rfl sc_3 (by assumption) rfl) ?_
  refine wl (ro_assign rfl) ?_
  refine wl_nil (x_then (hK2 _ _ ?_))
  clear hK2 K2
  refine c_ret ?_
  refine bp_ret Tryz.results358 rfl ?_
  exact ⟨⟨_, rfl⟩, rfl⟩
theorem posR381 {w : World} {b p : Nat} {x : Value} (h : Blk w.heap b [i64c p, x] 383) : PosR w (.iface 381 (ptr b)) := ⟨381, b, 358, rfl, by kernel_rfl, pos358 h⟩
theorem pos360 {w : World} {b p : Nat} {x : Value} (h : Blk w.heap b [i64c p, x] 386) : Ret Tryz.prog 360 [ptr b] w (fun r w' => (∃ p : Nat, r = i64c p) ∧ w' = w) := by
  refine ret_of Tryz.func360 rfl Tryz.ntmps360 rfl ?_
  refine c_seq (fun K1 hK1 => ?_)
  refine c_reg ?_ -- region 0 ast.go:116
  refine wl (ro_assign rfl) ?_
  refine wl_nil (x_then (hK1 _ _ ?_))
  clear hK1 K1
  refine forget [(0, _)] ⟨rfl, trivial⟩ (fun e => ?_)
  refine c_seq (fun K2 hK2 => ?_)
  refine c_reg ?_ -- region 1 ast.go:116
  refine wl (ro_move rfl) ?_
  refine wl (ro_nilCheck rfl) ?_
  refine wl (ro_fieldAddr (k := 0) rfl fo_386_0) ?_
  refine wl (ro_loadB rfl sc_3 (by assumption) rfl) ?_
  refine wl (ro_assign rfl) ?_
  refine wl_nil (x_then (hK2 _ _ ?_))
  clear hK2 K2
  refine c_ret ?_
  refine bp_ret Tryz.results360 rfl ?_
  exact ⟨⟨_, rfl⟩, rfl⟩
theorem posR384 {w : World} {b p : Nat} {x : Value} (h : Blk w.heap b [i64c p, x] 386) : PosR w (.iface 384 (ptr b)) := ⟨384, b, 360, rfl, by kernel_rfl, pos360 h⟩
theorem pos362 {w : World} {b p : Nat} {x : Value} (h : Blk w.heap b [i64c p, x] 391) : Ret Tryz.prog 362 [ptr b] w (fun r w' => (∃ p : Nat, r = i64c p) ∧ w' = w) := by
  refine ret_of Tryz.func362 rfl Tryz.ntmps362 rfl ?_
  refine c_seq (fun K1 hK1 => ?_)
  refine c_reg ?_ -- region 0 ast.go:122
  refine wl (ro_assign rfl) ?_
  refine wl_nil (x_then (hK1 _ _ ?_))
  clear hK1 K1
  refine forget [(0, _)] ⟨rfl, trivial⟩ (fun e => ?_)
  refine c_seq (fun K2 hK2 => ?_)
  refine c_reg ?_ -- region 1 ast.go:122
  refine wl (ro_move rfl) ?_
  refine wl (ro_nilCheck rfl) ?_
  refine wl (ro_fieldAddr (k := 0) rfl fo_391_0) ?_
  refine wl (ro_loadB rfl sc_3 (by assumption) rfl) ?_
  refine wl (ro_assign rfl) ?_
  refine wl_nil (x_then (hK2 _ _ ?_))
  clear hK2 K2
  refine c_ret ?_
  refine bp_ret Tryz.results362 rfl ?_
  exact ⟨⟨_, rfl⟩, rfl⟩
theorem posR389 {w : World} {b p : Nat} {x : Value} (h : Blk w.heap b [i64c p, x] 391) : PosR w (.iface 389 (ptr b)) := ⟨389, b, 362, rfl, by kernel_rfl, pos362 h⟩
theorem pos364 {w : World} {b p : Nat} {x y : Value} (h : Blk w.heap b [i64c p, x, y] 394) : Ret Tryz.prog 364 [ptr b] w (fun r w' => (∃ p : Nat, r = i64c p) ∧ w' = w) := by
  refine ret_of Tryz.func364 rfl Tryz.ntmps364 rfl ?_
  refine c_seq (fun K1 hK1 => ?_)
  refine c_reg ?_ -- region 0 ast.go:124
  refine wl (ro_assign rfl) ?_
  refine wl_nil (x_then (hK1 _ _ ?_))
  clear hK1 K1
  refine forget [(0, _)] ⟨rfl, trivial⟩ (fun e => ?_)
  refine c_seq (fun K2 hK2 => ?_)
  refine c_reg ?_ -- region 1 ast.go:124
  refine wl (ro_move rfl) ?_
  refine wl (ro_nilCheck rfl) ?_
  refine wl (ro_fieldAddr (k := 0) rfl fo_394_0) ?_
  refine wl (ro_loadB rfl sc_3 (by assumption) rfl) ?_
  refine wl (ro_assign rfl) ?_
  refine wl_nil (x_then (hK2 _ _ ?_))
  clear hK2 K2
  refine c_ret ?_
  refine bp_ret Tryz.results364 rfl ?_
  exact ⟨⟨_, rfl⟩, rfl⟩
theorem posR392 {w : World} {b p : Nat} {x y : Value} (h : Blk w.heap b [i64c p, x, y] 394) : PosR w (.iface 392 (ptr b)) := ⟨392, b, 364, rfl, by kernel_rfl, pos364 h⟩
theorem pos334 {w : World} {b b1 p : Nat} {x y : Value} (h : Blk w.heap b [ptr b1] 304) (h1 : Blk w.heap b1 [i64c p, x, y] 380) : Ret Tryz.prog 334 [ptr b] w (fun r w' => (∃ p : Nat, r = i64c p) ∧ w' = w) := by
  refine ret_of Tryz.func334 rfl Tryz.ntmps334 rfl ?_
  refine c_seq (fun K1 hK1 => ?_)
  refine c_reg ?_ -- region 0 ast.go:128
  refine wl (ro_assign rfl) ?_
  refine wl_nil (x_then (hK1 _ _ ?_))
  clear hK1 K1
  refine forget [(0, _)] ⟨rfl, trivial⟩ (fun e => ?_)
  refine c_seq (fun K2 hK2 => ?_)
  refine c_reg ?_ -- region 1 ast.go:128
  refine wl (ro_move rfl) ?_
  refine wl (ro_nilCheck rfl) ?_
  refine wl (ro_fieldAddr (k := 0) rfl fo_304_0) ?_
  refine wl (ro_loadB rfl sc_300 (by assumption) rfl) ?_
  refine wl (ro_nilCheck rfl) ?_
  refine wl (ro_fieldAddr (k := 0) rfl fo_380_0) ?_
  refine wl (ro_loadB rfl sc_3 (by assumption) rfl) ?_
  refine wl (ro_assign rfl) ?_
  refine wl_nil (x_then (hK2 _ _ ?_))
  clear hK2 K2
  refine c_ret ?_
  refine bp_ret Tryz.results334 rfl ?_
  exact ⟨⟨_, rfl⟩, rfl⟩
theorem posR302 {w : World} {b b1 p : Nat} {x y : Value} (h : Blk w.heap b [ptr b1] 304) (h1 : Blk w.heap b1 [i64c p, x, y] 380) : PosR w (.iface 302 (ptr b)) := ⟨302, b, 334, rfl, by kernel_rfl, pos334 h h1⟩
theorem pos344 {w : World} {b b1 p : Nat} {x z : Value} (h : Blk w.heap b [ptr b1, z] 352) (h1 : Blk w.heap b1 [i64c p, x] 349) : Ret Tryz.prog 344 [ptr b] w (fun r w' => (∃ p : Nat, r = i64c p) ∧ w' = w) := by
  refine ret_of Tryz.func344 rfl Tryz.ntmps344 rfl ?_
  refine c_seq (fun K1 hK1 => ?_)
  refine c_reg ?_ -- region 0 ast.go:126
  refine wl (ro_assign rfl) ?_
  refine wl_nil (x_then (hK1 _ _ ?_))
  clear hK1 K1
  refine forget [(0, _)] ⟨rfl, trivial⟩ (fun e => ?_)
  refine c_seq (fun K2 hK2 => ?_)
  refine c_reg ?_ -- region 1 ast.go:126
  refine wl (ro_move rfl) ?_
  refine wl (ro_nilCheck rfl) ?_
  refine wl (ro_fieldAddr (k := 0) rfl fo_352_0) ?_
  refine wl (ro_loadB rfl sc_305 (by assumption) rfl) ?_
  refine wl (ro_nilCheck rfl) ?_
  refine wl (ro_fieldAddr (k := 0) rfl fo_349_0) ?_
  refine wl (ro_loadB rfl sc_3 (by assumption) rfl) ?_
  refine wl (ro_assign rfl) ?_
  refine wl_nil (x_then (hK2 _ _ ?_))
  clear hK2 K2
  refine c_ret ?_
  refine bp_ret Tryz.results344 rfl ?_
  exact ⟨⟨_, rfl⟩, rfl⟩
theorem posR350 {w : World} {b b1 p : Nat} {x z : Value} (h : Blk w.heap b [ptr b1, z] 352) (h1 : Blk w.heap b1 [i64c p, x] 349) : PosR w (.iface 350 (ptr b)) := ⟨350, b, 344, rfl, by kernel_rfl, pos344 h h1⟩
theorem pos352 {w : World} {b b1 p : Nat} {x y z : Value} (h : Blk w.heap b [ptr b1, y, z] 365) (h1 : Blk w.heap b1 [i64c p, x] 349) : Ret Tryz.prog 352 [ptr b] w (fun r w' => (∃ p : Nat, r = i64c p) ∧ w' = w) := by
  refine ret_of Tryz.func352 rfl Tryz.ntmps352 rfl ?_
  refine c_seq (fun K1 hK1 => ?_)
  refine c_reg ?_ -- region 0 ast.go:131
  refine wl (ro_assign rfl) ?_
  refine wl_nil (x_then (hK1 _ _ ?_))
  clear hK1 K1
  refine forget [(0, _)] ⟨rfl, trivial⟩ (fun e => ?_)
  refine c_seq (fun K2 hK2 => ?_)
  refine c_reg ?_ -- region 1 ast.go:131
  refine wl (ro_move rfl) ?_
  refine wl (ro_nilCheck rfl) ?_
  refine wl (ro_fieldAddr (k := 0) rfl fo_365_0) ?_
  refine wl (ro_loadB rfl sc_305 (by assumption) rfl) ?_
  refine wl (ro_nilCheck rfl) ?_
  refine wl (ro_fieldAddr (k := 0) rfl fo_349_0) ?_
  refine wl (ro_loadB rfl sc_3 (by assumption) rfl) ?_
  refine wl (ro_assign rfl) ?_
  refine wl_nil (x_then (hK2 _ _ ?_))
  clear hK2 K2
  refine c_ret ?_
  refine bp_ret Tryz.results352 rfl ?_
  exact ⟨⟨_, rfl⟩, rfl⟩
theorem posR363 {w : World} {b b1 p : Nat} {x y z : Value} (h : Blk w.heap b [ptr b1, y, z] 365) (h1 : Blk w.heap b1 [i64c p, x] 349) : PosR w (.iface 363 (ptr b)) := ⟨363, b, 352, rfl, by kernel_rfl, pos352 h h1⟩
theorem pos346 {w : World} {ow : Nat → Nat} {b : Nat} {V : Value} {x : Value} {s : Str} {l : List Str} {ns : List Value} (h : Blk w.heap b [V, x] 356) (hV : SlM w ow V ns) (hN : nmM w ow (s :: l) ns) : Ret Tryz.prog 346 [ptr b] w (fun r w' => (∃ p : Nat, r = i64c p) ∧ w' = w) := by
  obtain ⟨b1, p1, r1, rfl, hN1, _⟩ := hN
  obtain ⟨g, vc, la, rfl, hga, _, hgl⟩ := hV.at0 (i := 0) rfl
  have hix : (0 : Nat) < (Value.iface 305 (ptr b1) :: r1).length := Nat.succ_pos _
  refine ret_of Tryz.func346 rfl Tryz.ntmps346 rfl ?_
  refine c_seq (fun K1 hK1 => ?_)
  refine c_reg ?_ -- region 0 ast.go:125
  refine wl (ro_assign rfl) ?_
  refine wl_nil (x_then (hK1 _ _ ?_))
  clear hK1 K1
  refine forget [(0, _)] ⟨rfl, trivial⟩ (fun e => ?_)
  refine c_seq (fun K2 hK2 => ?_)
  refine c_reg ?_ -- region 1 ast.go:125
  refine wl (ro_move rfl) ?_
  refine wl (ro_nilCheck rfl) ?_
  refine wl (ro_fieldAddr (k := 0) rfl fo_356_0) ?_
  refine wl (ro_loadB rfl sc_188 (by assumption) rfl) ?_
  refine wl (ro_indexAddr (et := 242) (k := 1) rfl rfl se_188 (rfl) ((by omega))) ?_
  refine wl (ro_loadB rfl sc_242 (hga) ((hgl 0 _ rfl))) ?_
  refine wl_pos rfl (posR305 hN1.1) (fun p ↦ ?_)
  refine wl (ro_assign rfl) ?_
  refine wl_nil (x_then (hK2 _ _ ?_))
  clear hK2 K2
  refine c_ret ?_
  refine bp_ret Tryz.results346 rfl ?_
  exact ⟨⟨_, rfl⟩, rfl⟩
theorem posR354 {w : World} {ow : Nat → Nat} {b : Nat} {V : Value} {x : Value} {s : Str} {l : List Str} {ns : List Value} (h : Blk w.heap b [V, x] 356) (hV : SlM w ow V ns) (hN : nmM w ow (s :: l) ns) : PosR w (.iface 354 (ptr b)) := ⟨354, b, 346, rfl, by kernel_rfl, pos346 h hV hN⟩
theorem pos350 {w : World} {ow : Nat → Nat} {b : Nat} {V : Value} {x y : Value} {s : Str} {l : List Str} {ns : List Value} (h : Blk w.heap b [V, x, y] 362) (hV : SlM w ow V ns) (hN : nmM w ow (s :: l) ns) : Ret Tryz.prog 350 [ptr b] w (fun r w' => (∃ p : Nat, r = i64c p) ∧ w' = w) := by
  obtain ⟨b1, p1, r1, rfl, hN1, _⟩ := hN
  obtain ⟨g, vc, la, rfl, hga, _, hgl⟩ := hV.at0 (i := 0) rfl
  have hix : (0 : Nat) < (Value.iface 305 (ptr b1) :: r1).length := Nat.succ_pos _
  refine ret_of Tryz.func350 rfl Tryz.ntmps350 rfl ?_
  refine c_seq (fun K1 hK1 => ?_)
  refine c_reg ?_ -- region 0 ast.go:132
  refine wl (ro_assign rfl) ?_
  refine wl_nil (x_then (hK1 _ _ ?_))
  clear hK1 K1
  refine forget [(0, _)] ⟨rfl, trivial⟩ (fun e => ?_)
  refine c_seq (fun K2 hK2 => ?_)
  refine c_reg ?_ -- region 1 ast.go:132
  refine wl (ro_move rfl) ?_
  refine wl (ro_nilCheck rfl) ?_
  refine wl (ro_fieldAddr (k := 0) rfl fo_362_0) ?_
  refine wl (ro_loadB rfl sc_188 (by assumption) rfl) ?_
  refine wl (ro_indexAddr (et := 242) (k := 1) rfl rfl se_188 (rfl) ((by omega))) ?_
  refine wl (ro_loadB rfl sc_242 (hga) ((hgl 0 _ rfl))) ?_
  refine wl_pos rfl (posR305 hN1.1) (fun p ↦ ?_)
  refine wl (ro_assign rfl) ?_
  refine wl_nil (x_then (hK2 _ _ ?_))
  clear hK2 K2
  refine c_ret ?_
  refine bp_ret Tryz.results350 rfl ?_
  exact ⟨⟨_, rfl⟩, rfl⟩
theorem posR360 {w : World} {ow : Nat → Nat} {b : Nat} {V : Value} {x y : Value} {s : Str} {l : List Str} {ns : List Value} (h : Blk w.heap b [V, x, y] 362) (hV : SlM w ow V ns) (hN : nmM w ow (s :: l) ns) : PosR w (.iface 360 (ptr b)) := ⟨360, b, 350, rfl, by kernel_rfl, pos350 h hV hN⟩
end Go.Proofs.Qxb6500568aGreatDoor
