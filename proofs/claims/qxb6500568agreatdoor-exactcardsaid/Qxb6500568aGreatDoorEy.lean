import Derived.Test.Qxb6500568aGreatDoorEx
/- The real flattener: lists. -/
namespace Go.Proofs.Qxb6500568aGreatDoor
open Ieee
set_option linter.unusedVariables false
set_option linter.unusedSimpArgs false

def misL (want : Array (String × TypeId)) (got : Array Method) : List String := (want.toList.filter fun (name, sig) => !got.any fun m => m.name == name && m.sig == sig).map (·.1)
theorem missing_some {want : Array (String × TypeId)} {got : Array Method} (h : (misL want got).isEmpty = false) : ∃ m, Instr.missingMethod want got = some m := by
  show ∃ m, (match (misL want got).partition (·.contains '.') with | (u, e) => Instr.least e <|> Instr.least (u.map fun id => (id.splitOn ".").getLastD id)) = some m
  rw [List.partition_eq_filter_filter]
  simp only
  generalize misL want got = l at h
  generalize (fun x : String => x.contains '.') = p
  cases h1 : l.filter (not ∘ p) with
  | cons a r => exact ⟨_, rfl⟩
  | nil =>
    cases h2 : l.filter p with
    | cons a r => exact ⟨_, rfl⟩
    | nil =>
      exfalso
      cases l with
      | nil => cases h
      | cons a r =>
        by_cases ha : p a = true
        · rw [List.filter_cons_of_pos ha] at h2; cases h2
        · rw [List.filter_cons_of_pos (by simp [ha])] at h1; cases h1
def misB (P : Program) (t u : TypeId) : Bool := match P.underlying t, P.info? u with | some (.interface want), some i => !(misL want i.methods).isEmpty | _, _ => false
def hasB (P : Program) (t u : TypeId) : Bool := match P.underlying t, P.info? u with | some (.interface want), some i => (Instr.missingMethod want i.methods).isNone | _, _ => false
section
variable {P : Program} {n : Nat} {e : Nat → Option Value} {w : World}
theorem ro_taIN {x : Operand} {u t xt : TypeId} {v z : Value} (hx : evO n e x = some (.iface u v)) (hm : misB P t u = true) (hz : (P.info? t).bind (·.zero) = some z) : RO P n e w (.typeAssert x xt t true) (.tuple #[z, .bool false]) := by
  intro ds dst ty ps af g
  unfold misB at hm
  split at hm
  · rename_i want i h1 h2
    obtain ⟨m, hm⟩ := missing_some (want := want) (got := i.methods) (by simpa using hm)
    obtain ⟨j, h3, h4⟩ : ∃ j, P.info? t = some j ∧ j.zero = some z := by
      cases hi : P.info? t with
      | none => rw [hi] at hz; cases hz
      | some j => rw [hi] at hz; exact ⟨j, rfl, hz⟩
    simp [execOp, evO_eval hx, Instr.typeAssert, run_underlying h1, typeInfo, h2, hm, zeroValue, h3, h4]
  · cases hm
theorem ro_taIY {x : Operand} {u t xt : TypeId} {v : Value} (hx : evO n e x = some (.iface u v)) (hm : hasB P t u = true) : RO P n e w (.typeAssert x xt t true) (.tuple #[.iface u v, .bool true]) := by
  intro ds dst ty ps af g
  unfold hasB at hm
  split at hm
  · rename_i want i h1 h2
    have hm : Instr.missingMethod want i.methods = none := by simpa using hm
    simp [execOp, evO_eval hx, Instr.typeAssert, run_underlying h1, typeInfo, h2, hm]
  · cases hm
theorem ro_taIY1 {x : Operand} {u t xt : TypeId} {v : Value} (hx : evO n e x = some (.iface u v)) (hm : hasB P t u = true) : RO P n e w (.typeAssert x xt t false) (.iface u v) := by
  intro ds dst ty ps af g
  unfold hasB at hm
  split at hm
  · rename_i want i h1 h2
    have hm : Instr.missingMethod want i.methods = none := by simpa using hm
    simp [execOp, evO_eval hx, Instr.typeAssert, run_underlying h1, typeInfo, h2, hm]
  · cases hm
end
/-- What an expression's type can do. -/
def ExT (T : TypeId) : Prop := misB Tryz.prog 237 T = true ∧ hasB Tryz.prog 290 T = true
def StT (T : TypeId) : Prop := hasB Tryz.prog 237 T = true
theorem TrM.exT {w : World} {ow : Nat → Nat} {x : Tr} {v : Value} (h : TrM w ow 0 x [v]) : ∃ T b, v = .iface T (ptr b) ∧ ExT T := by
  have key : ∀ {T b}, [v] = [Value.iface T (ptr b)] → v = .iface T (ptr b) := fun e => by injection e
  rcases h.invE with ⟨_, rfl⟩ | ⟨_, rfl⟩ | ⟨_, rfl⟩ | ⟨_, rfl⟩ | ⟨_, _, rfl⟩ | ⟨_, _, rfl⟩ | ⟨_, _, _, rfl⟩ | ⟨_, rfl⟩ | ⟨_, _, _, rfl⟩ | ⟨_, _, rfl⟩ | ⟨_, _, rfl⟩ | ⟨_, _, rfl⟩
  · obtain ⟨b, p, e, _⟩ := TrM_lit.1 h; exact ⟨_, _, key e, by constructor <;> kernel_rfl⟩
  · obtain ⟨b, p, e, _⟩ := TrM_num.1 h; exact ⟨_, _, key e, by constructor <;> kernel_rfl⟩
  · obtain ⟨b, p, e, _⟩ := TrM_str.1 h; exact ⟨_, _, key e, by constructor <;> kernel_rfl⟩
  · obtain ⟨b, p, e, _⟩ := TrM_name.1 h; exact ⟨_, _, key e, by constructor <;> kernel_rfl⟩
  · obtain ⟨b, p, x, y, e, _⟩ := TrM_index.1 h; exact ⟨_, _, key e, by constructor <;> kernel_rfl⟩
  · obtain ⟨b, p, x, U, us, e, _⟩ := TrM_call.1 h; exact ⟨_, _, key e, by constructor <;> kernel_rfl⟩
  · obtain ⟨b, p, V, U, ns, us, e, _⟩ := TrM_func.1 h; exact ⟨_, _, key e, by constructor <;> kernel_rfl⟩
  · obtain ⟨b, p, U, us, e, _⟩ := TrM_table.1 h; exact ⟨_, _, key e, by constructor <;> kernel_rfl⟩
  · obtain ⟨b, p, x, y, e, _⟩ := TrM_bin.1 h; exact ⟨_, _, key e, by constructor <;> kernel_rfl⟩
  · obtain ⟨b, p, x, e, _⟩ := TrM_un.1 h; exact ⟨_, _, key e, by constructor <;> kernel_rfl⟩
  · obtain ⟨b, p, x, y, e, _⟩ := TrM_land.1 h; exact ⟨_, _, key e, by constructor <;> kernel_rfl⟩
  · obtain ⟨b, p, x, y, e, _⟩ := TrM_lor.1 h; exact ⟨_, _, key e, by constructor <;> kernel_rfl⟩
theorem stT_354 : StT 354 := by unfold StT; kernel_rfl
theorem stT_350 : StT 350 := by unfold StT; kernel_rfl
theorem stT_307 : StT 307 := by unfold StT; kernel_rfl
theorem stT_302 : StT 302 := by unfold StT; kernel_rfl
theorem stT_357 : StT 357 := by unfold StT; kernel_rfl
theorem stT_293 : StT 293 := by unfold StT; kernel_rfl
theorem stT_363 : StT 363 := by unfold StT; kernel_rfl
theorem stT_360 : StT 360 := by unfold StT; kernel_rfl
theorem stT_239 : StT 239 := by unfold StT; kernel_rfl
theorem stT_240 : StT 240 := by unfold StT; kernel_rfl
theorem TrM.stT {w : World} {ow : Nat → Nat} {x : Tr} {v : Value} (h : TrM w ow 2 x [v]) : ∃ T b, v = .iface T (ptr b) ∧ StT T := by
  have key : ∀ {T b}, [v] = [Value.iface T (ptr b)] → v = .iface T (ptr b) := fun e => by injection e
  rcases h.invS with ⟨_, rfl⟩ | ⟨_, _, rfl⟩ | ⟨_, _, _, _, rfl⟩ | ⟨_, _, _, _, rfl⟩ | ⟨_, _, rfl⟩ | ⟨_, _, _, rfl⟩ | ⟨_, _, rfl⟩ | ⟨_, _, _, rfl⟩ | ⟨_, _, rfl⟩ | ⟨_, _, _, _, rfl⟩ | ⟨_, _, _, _, _, rfl⟩ | ⟨_, _, _, _, rfl⟩ | rfl | ⟨_, rfl⟩ | ⟨_, _, rfl⟩ | rfl
  · obtain ⟨b, V, ns, e, _⟩ := TrM_loc.1 h; exact ⟨_, _, key e, stT_354⟩
  · obtain ⟨b, V, ns, x, e, _⟩ := TrM_locV.1 h; exact ⟨_, _, key e, stT_354⟩
  · obtain ⟨b, V, ns, b1, p, x, U, us, e, _⟩ := TrM_loc2.1 h; exact ⟨_, _, key e, stT_354⟩
  · obtain ⟨b, b1, p1, b2, p, V, U, ns, us, e, _⟩ := TrM_locFn.1 h; exact ⟨_, _, key e, stT_350⟩
  · obtain ⟨b, p, b1, p1, x, e, _⟩ := TrM_setN.1 h; exact ⟨_, _, key e, stT_307⟩
  · obtain ⟨b, p, b1, p1, x, y, z, e, _⟩ := TrM_setI.1 h; exact ⟨_, _, key e, stT_307⟩
  · obtain ⟨b, b1, p, x, U, us, e, _⟩ := TrM_scall.1 h; exact ⟨_, _, key e, stT_302⟩
  · obtain ⟨b, p, x, U, us, V, ns, e, _⟩ := TrM_iff.1 h; exact ⟨_, _, key e, stT_357⟩
  · obtain ⟨b, p, x, U, us, e, _⟩ := TrM_whl.1 h; exact ⟨_, _, key e, stT_293⟩
  · obtain ⟨b, b1, p1, V, U, us, x, y, e, _⟩ := TrM_for2.1 h; exact ⟨_, _, key e, stT_363⟩
  · obtain ⟨b, b1, p1, V, U, us, x, y, z, e, _⟩ := TrM_for3.1 h; exact ⟨_, _, key e, stT_363⟩
  · obtain ⟨b, V, ns, x, U, us, e, _⟩ := TrM_forIn.1 h; exact ⟨_, _, key e, stT_360⟩
  · obtain ⟨b, p, e, _⟩ := TrM_ret0.1 h; exact ⟨_, _, key e, stT_239⟩
  · obtain ⟨b, p, x, e, _⟩ := TrM_ret1.1 h; exact ⟨_, _, key e, stT_239⟩
  · obtain ⟨b, p, x, y, e, _⟩ := TrM_ret2.1 h; exact ⟨_, _, key e, stT_239⟩
  · obtain ⟨b, p, e, _⟩ := TrM_brk.1 h; exact ⟨_, _, key e, stT_240⟩
theorem zi_237 : (Tryz.prog.info? 237).bind (·.zero) = some .nilIface := by kernel_rfl
/-- The numbers of the literals are small. -/
def NmB (t : Tr) : Prop := ∀ k ∈ numsT t, k < 4611686018427387904
/-- The contracts of the flattener for trees of at most n nodes. -/
structure FAll (n : Nat) : Prop where
  e : ∀ {w : World} {ow : Nat → Nat} {sb : Nat} {c0 c1 U : Value} {G : List (Nd × Nat)} {t : Tr} {v : Value}, ArV w ow sb c0 c1 U G → TrM w ow 0 t [v] → NmB t → ndT t ≤ n → 1 ≤ G.length → G.length + ndT t ≤ 1000000000 → Ret Tryz.prog 185 [ptr sb, v] w (ArR w ow sb c0 c1 U G (G.length + ndT t - 1) (lay t G.length) (ndT t))
  s : ∀ {w : World} {ow : Nat → Nat} {sb : Nat} {c0 c1 U : Value} {G : List (Nd × Nat)} {t : Tr} {v : Value}, ArV w ow sb c0 c1 U G → TrM w ow 2 t [v] → NmB t → ndT t ≤ n → 1 ≤ G.length → G.length + ndT t ≤ 1000000000 → Ret Tryz.prog 184 [ptr sb, v] w (ArR w ow sb c0 c1 U G (G.length + ndT t - 1) (lay t G.length) (ndT t))
section
variable {n : Nat} {w : World} {ow : Nat → Nat} {sb : Nat} {c0 c1 U : Value} {G : List (Nd × Nat)} {md : Nat} {t : Tr} {v : Value}
theorem lay136 (ih : FAll n) (hA : ArV w ow sb c0 c1 U G) (hm : md = 0 ∨ md = 2) (hT : TrM w ow md t [v]) (hb : NmB t) (hn : ndT t ≤ n) (hG : 1 ≤ G.length) (hl : G.length + ndT t ≤ 1000000000) : Ret Tryz.prog 136 [ptr sb, v] w (ArR w ow sb c0 c1 U G (G.length + ndT t - 1) (lay t G.length) (ndT t)) := by
  refine ret_of Tryz.func136 rfl Tryz.ntmps136 rfl ?_
  refine c_seq (fun K1 hK1 => ?_)
  rcases hm with rfl | rfl
  · skip
    obtain ⟨T, b, rfl, hT1, hT2⟩ := hT.exT
    refine c_reg ?_ -- region 0 flat.go:29
    refine wl (ro_assign rfl) ?_
    refine wl_nil (x_then (hK1 _ _ ?_))
    clear hK1 K1
    refine c_seq (fun K2 hK2 => ?_)
    refine c_seq (fun K3 hK3 => ?_)
    refine c_reg ?_ -- region 1 flat.go:30
    refine wl (ro_move rfl) ?_
    refine wl (ro_taIN rfl hT1 zi_237) ?_
    refine wl (ro_move rfl) ?_
    refine wl (ro_extract rfl rfl) ?_
    refine wl (ro_extract rfl rfl) ?_
    refine wl (ro_assign rfl) ?_
    refine wl (ro_assign rfl) ?_
    refine wl_nil (x_then (hK3 _ _ ?_))
    clear hK3 K3
    refine forget [(0, _), (1, _), (5, _), (6, _)] ⟨rfl, rfl, rfl, rfl, trivial⟩ (fun e => ?_)
    refine c_seq (fun K4 hK4 => ?_)
    refine c_reg ?_ -- region 2 flat.go:30
    refine wl (ro_move rfl) ?_
    refine wl_nil (x_then (hK4 _ _ ?_))
    clear hK4 K4
    refine wc_condF rfl ?_
    refine c_skip (x_then (hK2 _ _ ?_))
    clear hK2 K2
    refine forget [(0, _), (1, _)] ⟨rfl, rfl, trivial⟩ (fun e => ?_)
    refine c_seq (fun K5 hK5 => ?_)
    refine c_reg ?_ -- region 4 flat.go:33
    refine wl (ro_move rfl) ?_
    refine wl (ro_move rfl) ?_
    refine wl (ro_taIY1 rfl hT2) ?_
    refine wl_call rfl en_185 (ih.e hA hT hb hn hG hl) ?_
    rintro r u hr
    refine wl (ro_assign rfl) ?_
    refine wl_nil (x_then (hK5 _ _ ?_))
    clear hK5 K5
    refine c_ret ?_
    refine bp_ret Tryz.results136 rfl ?_
    exact hr
  · skip
    obtain ⟨T, b, rfl, hT1⟩ := hT.stT
    refine c_reg ?_ -- region 0 flat.go:29
    refine wl (ro_assign rfl) ?_
    refine wl_nil (x_then (hK1 _ _ ?_))
    clear hK1 K1
    refine c_seq (fun K6 hK6 => ?_)
    refine c_seq (fun K7 hK7 => ?_)
    refine c_reg ?_ -- region 1 flat.go:30
    refine wl (ro_move rfl) ?_
    refine wl (ro_taIY rfl hT1) ?_
    refine wl (ro_move rfl) ?_
    refine wl (ro_extract rfl rfl) ?_
    refine wl (ro_extract rfl rfl) ?_
    refine wl (ro_assign rfl) ?_
    refine wl (ro_assign rfl) ?_
    refine wl_nil (x_then (hK7 _ _ ?_))
    clear hK7 K7
    refine forget [(0, _), (1, _), (5, _), (6, _)] ⟨rfl, rfl, rfl, rfl, trivial⟩ (fun e => ?_)
    refine c_seq (fun K8 hK8 => ?_)
    refine c_reg ?_ -- region 2 flat.go:30
    refine wl (ro_move rfl) ?_
    refine wl_nil (x_then (hK8 _ _ ?_))
    clear hK8 K8
    refine wc_condT rfl ?_
    refine c_seq (fun K9 hK9 => ?_)
    refine c_reg ?_ -- region 3 flat.go:31
    refine wl (ro_move rfl) ?_
    refine wl (ro_move rfl) ?_
    refine wl_call rfl en_184 (ih.s hA hT hb hn hG hl) ?_
    rintro r u hr
    refine wl (ro_assign rfl) ?_
    refine wl_nil (x_then (hK9 _ _ ?_))
    clear hK9 K9
    refine c_ret (x_thenR ?_)
    refine bp_ret Tryz.results136 rfl ?_
    exact hr
theorem opt226N : Ret Tryz.prog 226 [ptr sb, .nilIface] w (fun r w' => r = i64c 0 ∧ w' = w) := by
  refine ret_of Tryz.func226 rfl Tryz.ntmps226 rfl ?_
  refine c_seq (fun K1 hK1 => ?_)
  refine c_reg ?_ -- region 0 flat.go:37
  refine wl (ro_assign rfl) ?_
  refine wl_nil (x_then (hK1 _ _ ?_))
  clear hK1 K1
  refine c_seq (fun K2 hK2 => ?_)
  refine c_seq (fun K3 hK3 => ?_)
  refine c_reg ?_ -- region 1 flat.go:38
  refine wl (ro_move rfl) ?_
  refine wl (ro_eqNilN rfl ifc_290) ?_
  refine wl_nil (x_then (hK3 _ _ ?_))
  clear hK3 K3
  refine wc_condT rfl ?_
  refine c_seq (fun K4 hK4 => ?_)
  refine c_reg ?_ -- region 2 flat.go:39
  refine wl (ro_assign rfl) ?_
  refine wl_nil (x_then (hK4 _ _ ?_))
  clear hK4 K4
  refine c_ret (x_thenR ?_)
  refine bp_ret Tryz.results226 rfl ?_
  exact ⟨rfl, rfl⟩
theorem opt226Y (ih : FAll n) (hA : ArV w ow sb c0 c1 U G) (hT : TrM w ow 0 t [v]) (hb : NmB t) (hn : ndT t ≤ n) (hG : 1 ≤ G.length) (hl : G.length + ndT t ≤ 1000000000) : Ret Tryz.prog 226 [ptr sb, v] w (ArR w ow sb c0 c1 U G (G.length + ndT t - 1) (lay t G.length) (ndT t)) := by
  obtain ⟨T, b, rfl⟩ := hT.ifc (.inl rfl)
  refine ret_of Tryz.func226 rfl Tryz.ntmps226 rfl ?_
  refine c_seq (fun K1 hK1 => ?_)
  refine c_reg ?_ -- region 0 flat.go:37
  refine wl (ro_assign rfl) ?_
  refine wl_nil (x_then (hK1 _ _ ?_))
  clear hK1 K1
  refine c_seq (fun K2 hK2 => ?_)
  refine c_seq (fun K3 hK3 => ?_)
  refine c_reg ?_ -- region 1 flat.go:38
  refine wl (ro_move rfl) ?_
  refine wl (ro_eqNilI rfl ifc_290) ?_
  refine wl_nil (x_then (hK3 _ _ ?_))
  clear hK3 K3
  refine wc_condF rfl ?_
  refine c_skip (x_then (hK2 _ _ ?_))
  clear hK2 K2
  refine forget [(0, _), (1, _)] ⟨rfl, rfl, trivial⟩ (fun e => ?_)
  refine c_seq (fun K4 hK4 => ?_)
  refine c_reg ?_ -- region 3 flat.go:41
  refine wl (ro_move rfl) ?_
  refine wl (ro_move rfl) ?_
  refine wl_call rfl en_185 (ih.e hA hT hb hn hG hl) ?_
  rintro r u hr
  refine wl (ro_assign rfl) ?_
  refine wl_nil (x_then (hK4 _ _ ?_))
  clear hK4 K4
  refine c_ret ?_
  refine bp_ret Tryz.results226 rfl ?_
  exact hr
end
end Go.Proofs.Qxb6500568aGreatDoor
