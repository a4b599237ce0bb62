import Derived.Test.Qxb6500569aGreatPg
import Derived.Test.Qxb6500569aGreatHj
/- The real heap: the printer. -/
namespace Go.Proofs.Qxb6500569aGreat
set_option linter.unusedVariables false
set_option linter.unusedSimpArgs false

section
variable {P : Program} {n : Nat} {e : Nat → Option Value} {ds : List Deferred} {w : World} {ops : Array Oper} {Q : Exit → Act → World → Prop} {rest : List Oper} {d : Nat} {ty : TypeId} {ps : String} {af : Array Edge}

theorem wl_mapUp {α : Type} [DecidableEq α] {kt : TypeId} {kv : α → Value} {t et r : Nat} {x y z : Operand} {a : α} {v : Value} {l : List (α × Value)} (hK : KeyT P kt kv) (hx : evO n e x = some (.map (some r))) (hy : evO n e y = some (kv a)) (hz : evO n e z = some v) (ht : P.underlying t = some (.map kt et)) (hM : MapAt kv w.heap r l)
    (K : ∀ w1, MapAt kv w1.heap r (ups l a v) → Fram (fun b => b = r) w w1 → WL P ops Q rest (Fr n e ds) w1) : WL P ops Q (⟨none, .mapUpdate t x y z, ty, ps, af, none⟩ :: rest) (Fr n e ds) w := by
  obtain ⟨w1, h1, h2, h3⟩ := so_mapUpdate (P := P) hK hx hy hz ht hM
  exact wls h1 (K w1 h2 h3)

theorem ql_str {S' : World → Prop} {last i : Nat} {r : List (Nat × Bool)} {t u et base m : Nat} {x y : Operand} {v : Value} {xs : List Value} {s : List UInt8} (hi : ops[i]? = some ⟨some d, .call ⟨.builtin .append, #[x, y], #[t, u]⟩, ty, ps, af, none⟩) (hx : evO n e x = some v) (hy : evO n e y = some (S s)) (ht : selB P t et 1 = true) (hu : strB P u = true) (hz : (P.info? et).bind (·.zero) = some (.int .u8 0))
    (hby : (P.info? et).any (fun i => i.bytes == 1) = true) (hown : Own w.heap v et 1 m xs) (hloc : ∀ b, v.ownBlock = some b → base ≤ b) (hbase : base ≤ w.heap.size) (hmax : m + s.length ≤ 1000000)
    (K : ∀ v' w', Own w'.heap v' et 1 (m + s.length) (xs ++ s.map u8c) → w.grownBy w' v.ownBlock → (∀ b, v'.ownBlock = some b → base ≤ b) → S' w' ∧ WQ P ops Q S' last r (Fr n (upd e d v') ds) w') : WQ P ops Q S' last ((i, true) :: r) (Fr n e ds) w := by
  obtain ⟨v', w', h1, h2, h3, h4⟩ := app_str (P := P) hx hy ht hu hz hby hown hloc hbase hmax
  exact ql_eo hi h1 (K v' w' h2 h3 h4).1 (K v' w' h2 h3 h4).2
end

def nml (nm : List Nat) : List (Nat × Value) := nm.zipIdx.map (fun p => (p.1, i64c p.2))

theorem look_zip : ∀ (nm : List Nat) (k x : Nat), look ((nm.zipIdx k).map (fun p => (p.1, i64c p.2))) x = if x ∈ nm then some (nm.idxOf x, i64c (k + nm.idxOf x)) else none
  | [], k, x => by simp [look]
  | y :: nm, k, x => by
    simp only [List.zipIdx_cons, List.map_cons, look]
    by_cases h : x = y
    · subst h; simp
    · have h' : ¬ y = x := fun e => h e.symm
      rw [if_neg h, look_zip nm (k + 1) x]
      have hb : (y == x) = false := by simp [h']
      by_cases hx : x ∈ nm
      · simp only [hx, if_true, List.mem_cons, h, false_or, Option.map_some, List.idxOf_cons, hb, cond_false]
        congr 3
        omega
      · simp [hx, h]

theorem look_nml (nm : List Nat) (x : Nat) : look (nml nm) x = if x ∈ nm then some (nm.idxOf x, i64c (nm.idxOf x)) else none := by
  have := look_zip nm 0 x
  simpa [nml] using this

theorem nml_add (nm : List Nat) (x : Nat) (h : x ∉ nm) : ups (nml nm) x (i64c nm.length) = nml (nm ++ [x]) := by
  unfold ups
  rw [look_nml, if_neg h]
  simp [nml, List.zipIdx_append]

theorem keyI32 : KeyT Tryz.prog 21 i32c := keyInt (f := fun a : Nat => (a : Int)) in_21 (fun a b h => by omega)
theorem mp_141 : Tryz.prog.underlying 141 = some (.map 21 3) := by kernel_rfl
theorem zr_3 : (Tryz.prog.info? 3).bind (·.zero) = some (.int .i64 0) := by kernel_rfl
theorem zr_5 : (Tryz.prog.info? 5).bind (·.zero) = some (.int .u8 0) := by kernel_rfl

structure Pen (base pb mb : Nat) (V : Value) (out : List UInt8) (nm : List Nat) (w : World) : Prop where
  blk : Blk w.heap pb [V, .map (some mb)] 143
  own : Own w.heap V 5 1 out.length (out.map u8c)
  loc : ∀ b, V.ownBlock = some b → base ≤ b
  map : MapAt i32c w.heap mb (nml nm)
  hpb : base ≤ pb
  hmb : base ≤ mb

theorem Own.neblk {H : Array Obj} {v : Value} {e k n b t : Nat} {xs l : List Value} (h : Own H v e k n xs) (hb : Blk H b l t) (ht : e ≠ t) : ∀ g, v.ownBlock = some g → g ≠ b := by
  intro g hg hgb
  subst hgb
  rcases h.2 with ⟨h2, _⟩ | ⟨g', cap, l', h1, h2, _⟩
  · rw [h2] at hg; cases hg
  · rw [h1] at hg; cases hg
    exact ht (h2.uniq hb).2

theorem Own.nemap {α : Type} [DecidableEq α] {kv : α → Value} {H : Array Obj} {v : Value} {e k n r : Nat} {xs : List Value} {l : List (α × Value)} (h : Own H v e k n xs) (hm : MapAt kv H r l) : ∀ g, v.ownBlock = some g → g ≠ r := by
  intro g hg hgb
  subst hgb
  rcases h.2 with ⟨h2, _⟩ | ⟨g', cap, l', h1, h2, _⟩
  · rw [h2] at hg; cases hg
  · rw [h1] at hg; cases hg
    exact hm.blk_ne h2 rfl

theorem Pen.none {base pb mb : Nat} {V : Value} {out : List UInt8} {nm : List Nat} {w w' : World} (h : Pen base pb mb V out nm w) (hf : Fram none' w w') : Pen base pb mb V out nm w' :=
  ⟨h.blk.fram hf (fun h => h), h.own.fram hf (fun _ _ h => h), h.loc, h.map.fram hf (fun h => h), h.hpb, h.hmb⟩

/-- The pen's text has been appended to, in the world w1; its block is then set. -/
theorem Pen.wrote {base pb mb : Nat} {V V' : Value} {out out' : List UInt8} {nm : List Nat} {w w1 : World} (h : Pen base pb mb V out nm w) (hbs : base ≤ w.heap.size) (hgr : w.grownBy w1 V.ownBlock) (hown : Own w1.heap V' 5 1 out'.length (out'.map u8c)) (hloc : ∀ b, V'.ownBlock = some b → base ≤ b) :
    Blk w1.heap pb [V, .map (some mb)] 143 ∧ Pen base pb mb V' out' nm (w1.setRow pb [V', .map (some mb)].toArray) ∧ Fram (fun b => base ≤ b) w (w1.setRow pb [V', .map (some mb)].toArray) := by
  have F1 : Fram (fun b => V.ownBlock = some b) w w1 := Fram.grown hgr (fun k hk => .inl hk)
  have hb1 : Blk w1.heap pb [V, .map (some mb)] 143 := h.blk.fram F1 (fun hk => h.own.neblk h.blk (by decide) _ hk rfl)
  have hm1 : MapAt i32c w1.heap mb (nml nm) := h.map.fram F1 (fun hk => h.own.nemap h.map _ hk rfl)
  have F2 : Fram (fun b => b = pb) w1 (w1.setRow pb [V', .map (some mb)].toArray) := Fram.set w1 pb _ (.inl rfl)
  refine ⟨hb1, ⟨hb1.set _, hown.fram F2 (fun b hb he => hown.neblk hb1 (by decide) b hb he), hloc, hm1.fram F2 (fun he => hm1.blk_ne hb1 he), h.hpb, h.hmb⟩, ?_⟩
  exact ((F1.mono (fun k hk hx => h.loc k hx)).trans (F2.mono (fun k hk hx => by rw [hx]; exact h.hpb)))

/-- What is asked of a call of the printer, and what it leaves. -/
def PutOK (L : HL) (R : RH) (base pb mb f : Nat) : Prop :=
  ∀ (w : World) (V : Value) (out : List UInt8) (nm : List Nat) (a : Nat), HeapAt w.heap L R → base ≤ w.heap.size → Pen base pb mb V out nm w → out.length ≤ 48 → 49 - out.length ≤ f → nm.length ≤ out.length → a < R.tags.length →
    Ret Tryz.prog 83 [ptr L.h, ptr pb, i32c a] w (fun r w' => r = .bool (putF f R.abs a out nm).1 ∧ ∃ V', Pen base pb mb V' (putF f R.abs a out nm).2.1 (putF f R.abs a out nm).2.2 w' ∧ Fram (fun b => base ≤ b) w w')

theorem itoa64 {k : Nat} (h : k ≤ 48) : k ≤ 1000000 := by omega

set_option maxHeartbeats 1600000 in
theorem put83v {L : HL} {R : RH} (wf : WFc R) {base pb mb f : Nat} (hbase : ∀ b, L.foot b → b < base) {w : World} {V : Value} {out : List UInt8} {nm : List Nat} {a : Nat} (H : HeapAt w.heap L R) (hbs : base ≤ w.heap.size) (hP : Pen base pb mb V out nm w)
    (hout : out.length ≤ 48) (hnm : nm.length ≤ out.length) (ha : a < R.tags.length) (hx : R.tags[deref R.abs a]? = some 0) :
    Ret Tryz.prog 83 [ptr L.h, ptr pb, i32c a] w (fun r w' => r = .bool (putF (f + 1) R.abs a out nm).1 ∧ ∃ V', Pen base pb mb V' (putF (f + 1) R.abs a out nm).2.1 (putF (f + 1) R.abs a out nm).2.2 w' ∧ Fram (fun b => base ≤ b) w w') := by
  obtain ⟨hdl, _⟩ := deref_tag wf ha
  rw [putF_var (hOf_var hx)]
  obtain ⟨x, hxe⟩ : ∃ x, x = deref R.abs a := ⟨_, rfl⟩
  have hil : nm.idxOf x ≤ nm.length := List.idxOf_le_length
  have hit := itoa_len (nm.idxOf x)
  have hB := H.st
  obtain ⟨j1, hT, _⟩ := H.tags
  refine ret_of Tryz.func83 rfl Tryz.ntmps83 rfl ?_
  refine c_seq (fun K1 hK1 => ?_)
  refine c_reg ?_ -- region 0 write.go:28
  refine wl (ro_assign rfl) ?_
  refine wl_nil (x_then (hK1 _ _ ?_))
  clear hK1 K1
  refine forget [(0, _), (1, _), (2, _)] ⟨rfl, rfl, rfl, trivial⟩ (fun e => ?_)
  refine c_seq (fun K2 hK2 => ?_)
  refine c_reg ?_ -- region 1 write.go:29
  refine wl (ro_move rfl) ?_
  refine wl (ro_move rfl) ?_
  refine wl_call rfl en_112 (deref112 H wf ha) ?_
  rintro _ w ⟨rfl, rfl⟩
  rw [← hxe] at hx hdl ⊢
  refine wl (ro_assign rfl) ?_
  refine wl_nil (x_then (hK2 _ _ ?_))
  clear hK2 K2
  refine c_seq (fun K3 hK3 => ?_)
  refine c_seq (fun K4 hK4 => ?_)
  refine c_reg ?_ -- region 2 write.go:30
  refine wl (ro_move rfl) ?_
  refine wl (ro_nilCheck rfl) ?_
  refine wl (ro_fieldAddr (k := 0) rfl fo_69_0) ?_
  refine wl (ro_loadB rfl sc_64 (by assumption) rfl) ?_
  refine wl (ro_move rfl) ?_
  refine wl (ro_indexAddr (et := 177) (k := 1) rfl rfl se_64 rfl (hdl)) ?_
  refine wl (ro_loadB rfl sc_177 (hT) (getMap hx)) ?_
  refine wl (ro_bits (r := 0) rfl rfl rfl) ?_
  refine wl (ro_cmp rfl rfl rfl) ?_
  refine wl_nil (x_then (hK4 _ _ ?_))
  clear hK4 K4
  refine wc_condT rfl ?_
  refine c_seq (fun K5 hK5 => ?_)
  refine c_reg ?_ -- region 3 write.go:31
  refine wl (ro_move rfl) ?_
  refine wl (ro_nilCheck rfl) ?_
  refine wl (ro_fieldAddr (k := 1) rfl fo_143_1) ?_
  refine wl (ro_loadB rfl sc_141 (hP.blk) (rfl)) ?_
  refine wl (ro_move rfl) ?_
  refine wl (ro_lookup2 (kv := i32c) (a := x) (l := nml nm) keyI32 rfl rfl mp_141 zr_3 hP.map) ?_
  refine wl (ro_move rfl) ?_
  refine wl (ro_extract rfl rfl) ?_
  refine wl (ro_extract rfl rfl) ?_
  refine wl (ro_assign rfl) ?_
  refine wl (ro_assign rfl) ?_
  refine wl_nil (x_then (hK5 _ _ ?_))
  clear hK5 K5
  refine c_mid (fun a' w' => Pen base pb mb V out (nmAdd nm x) w' ∧ Fram (fun b => base ≤ b) w w' ∧ ∃ e, a' = Fr 140 (upds e [(1, ptr pb), (7, i64c (nm.idxOf x))]) []) ?_ ?_
  · skip
    refine c_seq (fun K6 hK6 => ?_)
    refine c_reg ?_ -- region 4 write.go:32
    refine wl (ro_move rfl) ?_
    refine wl (ro_not rfl) ?_
    refine wl_nil (x_then (hK6 _ _ ?_))
    clear hK6 K6
    refine wc_cond rfl (fun hc36 => ?_) (fun hc36 => ?_)
    · try simp only [decide_eq_true_eq, decide_eq_false_iff_not, Bool.not_eq_true', Bool.not_eq_false', Bool.not_eq_eq_eq_not, Bool.not_true, Bool.not_false, beq_iff_eq, bne_iff_ne, ne_eq, beq_eq_false_iff_ne, bne_eq_false_iff_eq, gt_iff_lt, ge_iff_le, Int.not_lt, Int.not_le] at hc36
      have hlk : x ∉ nm := by
        intro hm
        have : (lookV (nml nm) x).isSome = true := by simp [lookV, look_nml, hm]
        rw [this] at hc36
        cases hc36
      have hidx : nm.idxOf x = nm.length := List.idxOf_eq_length hlk
      refine c_seq (fun K7 hK7 => ?_)
      refine c_reg ?_ -- region 5 write.go:33
      refine wl (ro_move rfl) ?_
      refine wl (ro_nilCheck rfl) ?_
      refine wl (ro_fieldAddr (k := 1) rfl fo_143_1) ?_
      refine wl (ro_loadB rfl sc_141 (hP.blk) (rfl)) ?_
      refine wl (ro_lenM (kv := i32c) (l := nml nm) rfl mp_141 hP.map) ?_
      refine wl (ro_assign rfl) ?_
      refine wl_nil (x_then (hK7 _ _ ?_))
      clear hK7 K7
      refine c_reg ?_ -- region 6 write.go:34
      refine wl (ro_move rfl) ?_
      refine wl (ro_nilCheck rfl) ?_
      refine wl (ro_fieldAddr (k := 1) rfl fo_143_1) ?_
      refine wl (ro_loadB rfl sc_141 (hP.blk) (rfl)) ?_
      refine wl (ro_move rfl) ?_
      refine wl (ro_move rfl) ?_
      refine wl_mapUp (kv := i32c) (a := x) (v := i64c nm.length) (l := nml nm) keyI32 rfl rfl (by simp [nml]; rfl) mp_141 hP.map ?_
      intro w2 hM2 F2
      rw [nml_add nm x hlk] at hM2
      refine wl_nil (x_then ?_)
      refine ⟨⟨hP.blk.fram F2 (fun he => hP.map.blk_ne hP.blk he.symm), hP.own.fram F2 (fun b hb he => hP.own.nemap hP.map b hb he), hP.loc, ?_, hP.hpb, hP.hmb⟩, F2.mono (fun k hk he => by rw [he]; exact hP.hmb), kp _ ⟨rfl, ?_, trivial⟩⟩
      · unfold nmAdd; rw [if_neg hlk]; exact hM2
      · rw [hidx]; simp [nml]; rfl
    · try simp only [decide_eq_true_eq, decide_eq_false_iff_not, Bool.not_eq_true', Bool.not_eq_false', Bool.not_eq_eq_eq_not, Bool.not_true, Bool.not_false, beq_iff_eq, bne_iff_ne, ne_eq, beq_eq_false_iff_ne, bne_eq_false_iff_eq, gt_iff_lt, ge_iff_le, Int.not_lt, Int.not_le] at hc36
      have hlk : x ∈ nm := by
        rcases Classical.em (x ∈ nm) with h | h
        · exact h
        · have : (lookV (nml nm) x).isSome = false := by simp [lookV, look_nml, h]
          rw [this] at hc36
          cases hc36
      refine c_skip (x_then ?_)
      refine ⟨(by unfold nmAdd; rw [if_pos hlk]; exact hP), Fram.refl _ _, kp _ ⟨rfl, ?_, trivial⟩⟩
      show some ((lookV (nml nm) x).getD (.int .i64 0)) = _
      simp [lookV, look_nml, hlk]
  rintro a' w2 ⟨hP2, F2, e, rfl⟩
  obtain ⟨a0, cap0, hV⟩ := hP2.own.form
  have hbs2 : base ≤ w2.heap.size := Nat.le_trans hbs F2.size
  subst hV
  refine c_seq (fun K8 hK8 => ?_)
  refine c_reg ?_ -- region 7 write.go:36
  refine wl (ro_move rfl) ?_
  refine wl (ro_move rfl) ?_
  refine wl (ro_nilCheck rfl) ?_
  refine wl (ro_fieldAddr (k := 0) rfl fo_143_0) ?_
  refine wl (ro_loadB rfl sc_66 (hP2.blk) (rfl)) ?_
  refine wle (eo_bs1 rfl rfl se_66 zx_5 rfl rfl rfl) ?_
  have hN := Blk.new w2 [u8c 95] 5
  have hP3 := hP2.none (Fram.alloc none' w2 (.cells [u8c 95].toArray 5))
  refine wl_app (news := [u8c 95]) rfl rfl se_66 zx_5 by_5 rfl hP3.own hN rfl rfl (by simp [u8c, Value.oneCell']) (by omega) (by omega) ?_
  intro V3 w3 hown hgr hloc
  obtain ⟨a3, cap3, rfl⟩ := hown.form
  have hown' : Own w3.heap (.slice a3 (out.length + 1) cap3) 5 1 (out ++ [95]).length ((out ++ [95]).map u8c) := by simpa using hown
  obtain ⟨hb4, hP4, F4⟩ := hP3.wrote (V' := _) (out' := out ++ [95]) (by simp; omega) hgr hown' (by intro b hb; rcases hloc with h | h; rw [h] at hb; exact hP3.loc b hb; rw [h] at hb; cases hb; simp; omega)
  refine wl (ro_nilCheck rfl) ?_
  refine wl (ro_fieldAddr (k := 0) rfl fo_143_0) ?_
  refine wls (so_storeB rfl rfl rfl sz_66 (hb4) (by simp)) ?_
  have F5 := F2.trans ((Fram.alloc _ w2 (.cells [u8c 95].toArray 5)).trans F4)
  refine gen2 (A := fun w4 => Pen base pb mb (.slice a3 (out.length + 1) cap3) (out ++ [95]) (nmAdd nm x) w4) (B := fun w4 => Fram (fun b => base ≤ b) w w4) (C := fun w4 => WL _ _ _ _ _ w4) hP4 F5 ?_
  clear hP4 F5 F4 hb4 hown' hown hgr hloc hP3 hN hP2 F2
  intro w4 hP4 F4
  have hbs4 : base ≤ w4.heap.size := Nat.le_trans hbs F4.size
  refine wl_nil (x_then (hK8 _ _ ?_))
  clear hK8 K8
  refine forget [(1, _), (7, _)] ⟨rfl, rfl, trivial⟩ (fun e => ?_)
  refine c_seq (fun K9 hK9 => ?_)
  refine c_piL 10 [(0, false), (1, false), (2, false), (3, false), (4, false), (5, false), (6, true), (7, true), (8, false), (9, false)] (fun w' => Blk w'.heap pb [.slice a3 (out.length + 1) cap3, .map (some mb)] 143) mixed (by kernel_rfl) rfl (by kernel_rfl) (po_then (po_then (po_bp))) (hP4.blk) ?_ -- region 8 write.go:37
  refine ql_ro rfl (fun w hS => ro_move rfl) ?_
  refine ql_ro rfl (fun w hS => ro_move rfl) ?_
  refine ql_ro rfl (fun w hS => ro_nilCheck rfl) ?_
  refine ql_ro rfl (fun w hS => ro_fieldAddr (k := 0) rfl fo_143_0) ?_
  refine ql_ro rfl (fun w hS => ro_loadB rfl sc_66 (hS) rfl) ?_
  refine ql_ro rfl (fun w hS => ro_move rfl) ?_
  refine ql_call rfl rfl en_39 (Itoa39 (n := nm.idxOf x) (by omega)) ?_
  rintro _ w5 ⟨rfl, F5⟩
  have hP5 := (hP4.none (Fram.drew none' w4 (w4.drawn + 1))).none F5
  have F6 : Fram (fun b => base ≤ b) w w5 := F4.thenDrew.trans (F5.mono (fun _ _ h => h.elim))
  have hbs5 : base ≤ w5.heap.size := Nat.le_trans hbs F6.size
  refine ⟨hP5.blk, ?_⟩
  refine ql_str rfl rfl rfl se_66 st_9 zr_5 by_5 hP5.own hP5.loc hbs5 (by simp; omega) ?_
  intro V6 w6 hown hgr hloc
  obtain ⟨a6, cap6, rfl⟩ := hown.form
  have hown' : Own w6.heap (.slice a6 ((out ++ [95]).length + (itoa (nm.idxOf x)).length) cap6) 5 1 (out ++ [95] ++ itoa (nm.idxOf x)).length ((out ++ [95] ++ itoa (nm.idxOf x)).map u8c) := by
    have e1 : (out ++ [95] ++ itoa (nm.idxOf x)).length = (out ++ [95]).length + (itoa (nm.idxOf x)).length := List.length_append
    have e2 : (out ++ [95] ++ itoa (nm.idxOf x)).map u8c = (out ++ [95]).map u8c ++ (itoa (nm.idxOf x)).map u8c := List.map_append
    rw [e1, e2]
    exact hown
  obtain ⟨hb7, hP7, F7⟩ := hP5.wrote (V' := _) (out' := out ++ [95] ++ itoa (nm.idxOf x)) hbs5 hgr hown' hloc
  refine ⟨hb7, ?_⟩
  refine ql_ro rfl (fun w hS => ro_nilCheck rfl) ?_
  refine ql_ro rfl (fun w hS => ro_fieldAddr (k := 0) rfl fo_143_0) ?_
  refine ql_last rfl (so_storeB rfl rfl rfl sz_66 (hb7) (by simp)) ?_
  have F8 := F6.trans F7
  refine x_then (hK9 _ _ ?_)
  clear hK9 K9
  refine forget [(1, _)] ⟨rfl, trivial⟩ (fun e => ?_)
  refine c_seq (fun K10 hK10 => ?_)
  refine gen2 (A := fun w4 => Pen base pb mb (.slice a6 ((out ++ [95]).length + (itoa (nm.idxOf x)).length) cap6) (out ++ [95] ++ itoa (nm.idxOf x)) (nmAdd nm x) w4) (B := fun w4 => Fram (fun b => base ≤ b) w w4) (C := fun w4 => WC _ _ _ _ w4) hP7 F8 ?_
  clear hP7 F8 F7 hb7 hown' hown hgr hloc hP5 F6 F5 F4 hP4
  intro w8 hP8 F8
  refine c_reg ?_ -- region 9 write.go:38
  refine wl (ro_move rfl) ?_
  refine wl (ro_nilCheck rfl) ?_
  refine wl (ro_fieldAddr (k := 0) rfl fo_143_0) ?_
  refine wl (ro_loadB rfl sc_66 (hP8.blk) (rfl)) ?_
  refine wl (ro_lenL rfl se_66) ?_
  refine wl (ro_cmp rfl rfl rfl) ?_
  refine wl (ro_assign rfl) ?_
  refine wl_nil (x_then (hK10 _ _ ?_))
  clear hK10 K10
  refine c_ret (x_thenR ?_)
  refine bp_ret Tryz.results83 rfl ?_
  rw [← hxe]
  refine ⟨congrArg Value.bool ?_, _, hP8, F8⟩
  simp only [List.length_append, decide_eq_decide]
  omega

set_option maxHeartbeats 1600000 in
theorem put83s {L : HL} {R : RH} (wf : WFc R) {base pb mb f : Nat} (hbase : ∀ b, L.foot b → b < base) (IH : PutOK L R base pb mb f) {w : World} {V : Value} {out : List UInt8} {nm : List Nat} {a : Nat} (H : HeapAt w.heap L R) (hbs : base ≤ w.heap.size) (hP : Pen base pb mb V out nm w)
    (hout : out.length ≤ 48) (hf : 49 - out.length ≤ f + 1) (hnm : nm.length ≤ out.length) (ha : a < R.tags.length) (hx : R.tags[deref R.abs a]? = some 1) :
    Ret Tryz.prog 83 [ptr L.h, ptr pb, i32c a] w (fun r w' => r = .bool (putF (f + 1) R.abs a out nm).1 ∧ ∃ V', Pen base pb mb V' (putF (f + 1) R.abs a out nm).2.1 (putF (f + 1) R.abs a out nm).2.2 w' ∧ Fram (fun b => base ≤ b) w w') := by
  obtain ⟨hdl, hdt⟩ := deref_tag wf ha
  obtain ⟨o, fc, d, h2, h3, h4, h5, h6, h7, hab⟩ := abs_of_str wf hx
  have hho : hOf R.abs (deref R.abs a) = fc :: [d] := by simp [hOf, hab]
  have hkl := kidsOf_le wf hdt
  have hkb : ∀ z ∈ kidsOf R.abs (deref R.abs a), z < R.tags.length := fun z hz => kidsOf_lt wf hdt hz
  have hsz := wf.size
  have hl2 := wf.len2
  have hB := H.st
  obtain ⟨j1, hT, _⟩ := H.tags
  obtain ⟨j3, hHd, hj3⟩ := H.heads
  rw [putF_str hho]
  obtain ⟨a0, cap0, rfl⟩ := hP.own.form
  refine ret_of Tryz.func83 rfl Tryz.ntmps83 rfl ?_
  refine c_seq (fun K1 hK1 => ?_)
  refine c_reg ?_ -- region 0 write.go:28
  refine wl (ro_assign rfl) ?_
  refine wl_nil (x_then (hK1 _ _ ?_))
  clear hK1 K1
  refine forget [(0, _), (1, _), (2, _)] ⟨rfl, rfl, rfl, trivial⟩ (fun e => ?_)
  refine c_seq (fun K2 hK2 => ?_)
  refine c_reg ?_ -- region 1 write.go:29
  refine wl (ro_move rfl) ?_
  refine wl (ro_move rfl) ?_
  refine wl_call rfl en_112 (deref112 H wf ha) ?_
  rintro _ w ⟨rfl, rfl⟩
  generalize deref R.abs a = x at *
  refine wl (ro_assign rfl) ?_
  refine wl_nil (x_then (hK2 _ _ ?_))
  clear hK2 K2
  refine c_seq (fun K3 hK3 => ?_)
  refine c_seq (fun K4 hK4 => ?_)
  refine c_reg ?_ -- region 2 write.go:30
  refine wl (ro_move rfl) ?_
  refine wl (ro_nilCheck rfl) ?_
  refine wl (ro_fieldAddr (k := 0) rfl fo_69_0) ?_
  refine wl (ro_loadB rfl sc_64 (by assumption) rfl) ?_
  refine wl (ro_move rfl) ?_
  refine wl (ro_indexAddr (et := 177) (k := 1) rfl rfl se_64 rfl (hdl)) ?_
  refine wl (ro_loadB rfl sc_177 (hT) (getMap hx)) ?_
  refine wl (ro_bits (r := 1) rfl rfl rfl) ?_
  refine wl (ro_cmp rfl rfl rfl) ?_
  refine wl_nil (x_then (hK4 _ _ ?_))
  clear hK4 K4
  refine wc_condF rfl ?_
  refine c_skip (x_then (hK3 _ _ ?_))
  clear hK3 K3
  refine forget [(0, _), (1, _), (2, _)] ⟨rfl, rfl, rfl, trivial⟩ (fun e => ?_)
  refine c_seq (fun K5 hK5 => ?_)
  refine c_piL 17 [(0, false), (1, false), (2, false), (3, false), (4, false), (5, false), (6, false), (7, false), (8, false), (9, false), (10, false), (11, false), (12, false), (13, true), (14, true), (15, false), (16, false)] (fun w' => Blk w'.heap pb [.slice a0 out.length cap0, .map (some mb)] 143 ∧ Blk w'.heap L.h [sl L.t R.tags.length 64, sl L.w R.word.length 64, sl L.hd R.heads.length 128, sl L.a R.args.length 256, sl L.tr R.trail.length 64, sl L.m R.marks.length 26] 69 ∧ Blk w'.heap L.hd (R.heads.map u8c ++ j3) 5) mixed (by kernel_rfl) rfl (by kernel_rfl) (po_then (po_bp)) (⟨hP.blk, hB, hHd⟩) ?_ -- region 10 write.go:40
  refine ql_ro rfl (fun w hS => ro_move rfl) ?_
  refine ql_ro rfl (fun w hS => ro_move rfl) ?_
  refine ql_ro rfl (fun w hS => ro_nilCheck rfl) ?_
  refine ql_ro rfl (fun w hS => ro_fieldAddr (k := 0) rfl fo_143_0) ?_
  refine ql_ro rfl (fun w hS => ro_loadB rfl sc_66 (hS.1) rfl) ?_
  refine ql_ro rfl (fun w hS => ro_move rfl) ?_
  refine ql_ro rfl (fun w hS => ro_nilCheck rfl) ?_
  refine ql_ro rfl (fun w hS => ro_fieldAddr (k := 2) rfl fo_69_2) ?_
  refine ql_ro rfl (fun w hS => ro_loadB rfl sc_66 (hS.2.1) rfl) ?_
  refine ql_ro rfl (fun w hS => ro_move rfl) ?_
  refine ql_ro rfl (fun w hS => ro_arith rfl rfl rfl (Go.IntWalk.i32_in _ (by omega))) ?_
  refine ql_ro rfl (fun w hS => ro_indexAddr (et := 5) (k := 1) rfl rfl se_66 ((by show (_ : Int) = ((2 * x : Nat) : Int); omega)) ((by omega))) ?_
  refine ql_ro rfl (fun w hS => ro_loadB rfl sc_5 (hS.2.2) (getMap h3)) ?_
  refine ql_eo rfl (eo_bs1 rfl rfl se_66 zx_5 rfl rfl rfl) (⟨hP.blk.alloc _, hB.alloc _, hHd.alloc _⟩) ?_
  have hN := Blk.new { w with drawn := w.drawn + 1 } [u8c fc] 5
  have hP3 := (hP.none (Fram.drew none' w (w.drawn + 1))).none (Fram.alloc none' _ (.cells [u8c fc].toArray 5))
  refine ql_app (news := [u8c fc]) rfl rfl rfl se_66 zx_5 by_5 rfl hP3.own hN rfl rfl (by simp [u8c, Value.oneCell']) (by omega) (by omega) ?_
  intro V3 w3 hown hgr hloc
  obtain ⟨a3, cap3, rfl⟩ := hown.form
  have hown' : Own w3.heap (.slice a3 (out.length + 1) cap3) 5 1 (out ++ [fc]).length ((out ++ [fc]).map u8c) := by simpa using hown
  obtain ⟨hb4, hP4, F4⟩ := hP3.wrote (V' := _) (out' := out ++ [fc]) (by simp; omega) hgr hown' (by intro b hb; rcases hloc with h | h; rw [h] at hb; exact hP3.loc b hb; rw [h] at hb; cases hb; simp; omega)
  have FF : Fram (fun b => base ≤ b) w w3 := ((Fram.drew _ w (w.drawn + 1)).thenAlloc).thenGrown hgr (fun b hb => .inl (hP3.loc b hb))
  refine ⟨⟨hb4, hB.fram FF (fun h => by have := hbase _ L.foot_h; omega), hHd.fram FF (fun h => by have := hbase _ L.foot_hd; omega)⟩, ?_⟩
  refine ql_ro rfl (fun w hS => ro_nilCheck rfl) ?_
  refine ql_ro rfl (fun w hS => ro_fieldAddr (k := 0) rfl fo_143_0) ?_
  refine ql_last rfl (so_storeB rfl rfl rfl sz_66 (hb4) (by simp)) ?_
  have F5 : Fram (fun b => base ≤ b) w (w3.setRow pb [.slice a3 (out.length + 1) cap3, .map (some mb)].toArray) := FF.trans ((Fram.set w3 pb _ (.inl hP.hpb)))
  refine x_then (hK5 _ _ ?_)
  clear hK5 K5
  refine forget [(0, _), (1, _), (2, _)] ⟨rfl, rfl, rfl, trivial⟩ (fun e => ?_)
  refine c_seq (fun K6 hK6 => ?_)
  refine gen2 (A := fun w4 => Pen base pb mb (.slice a3 (out.length + 1) cap3) (out ++ [fc]) nm w4) (B := fun w4 => Fram (fun b => base ≤ b) w w4) (C := fun w4 => WC _ _ _ _ w4) hP4 F5 ?_
  clear hP4 F5 F4 hb4 hown' hown hgr hloc hP3 hN FF
  intro w4 hP4 F4
  have H4 : HeapAt w4.heap L R := H.fram F4 (fun b hb h => by have := hbase b hb; omega)
  refine c_reg ?_ -- region 11 write.go:41
  refine wl (ro_move rfl) ?_
  refine wl (ro_move rfl) ?_
  refine wl_call rfl en_102 (kids102k H4 wf hdt) ?_
  rintro _ w4 ⟨oa, kc, rfl, hkv, rfl⟩
  generalize kidsOf R.abs x = ks at *
  refine wl (ro_assign rfl) ?_
  refine wl_nil (x_then (hK6 _ _ ?_))
  clear hK6 K6
  refine forget [(0, _), (1, _), (9, _)] ⟨rfl, rfl, rfl, trivial⟩ (fun e => ?_)
  refine c_seq (fun K7 hK7 => ?_)
  refine c_reg ?_ -- region 12 write.go:42
  refine wl (ro_assign rfl) ?_
  refine wl_nil (x_then (hK7 _ _ ?_))
  clear hK7 K7
  refine c_seq (fun K8 hK8 => ?_)
  refine c_seq (fun K9 hK9 => ?_)
  refine c_reg ?_ -- region 13 write.go:43
  refine wl (ro_move rfl) ?_
  refine wl (ro_lenL rfl se_65) ?_
  refine wl (ro_move rfl) ?_
  refine wl_nil (x_then (hK9 _ _ ?_))
  clear hK9 K9
  refine c_block ?_
  -- loop@r14: live slots [0, 1, 9, 10, 93, 94, 95]
  refine c_loopG (fun m a' w' => ∃ i V out1 nm1, m = ks.length - i ∧ i ≤ ks.length ∧ putK (putF f R.abs) (ks.drop i) (if i = 0 then 40 else 44) out1 nm1 = putK (putF f R.abs) ks 40 (out ++ [fc]) nm ∧ out.length + 1 ≤ out1.length ∧ out1.length ≤ 49 ∧ nm1.length ≤ out1.length ∧ Pen base pb mb V out1 nm1 w' ∧ Fram (fun b => base ≤ b) w w' ∧ KV w'.heap L oa ks ∧ ∃ e, a' = Fr 140 (upds e [(0, ptr L.h), (1, ptr pb), (9, .slice oa ks.length kc), (10, u8c (if i = 0 then 40 else 44)), (93, .slice oa ks.length kc), (94, i64c ks.length), (95, i64c i)]) []) ks.length ⟨0, _, _, _, rfl, by omega, rfl, by simp, by simp; omega, by simp; omega, hP4, F4, hkv, kp _ ⟨rfl, rfl, rfl, rfl, rfl, rfl, rfl, trivial⟩⟩ ?_
  clear hP4 F4 hkv H4
  rintro m a' w5 ⟨i, V5, out1, nm1, rfl, hi, hinv, ho1, ho2, hn1, hP5, F5, hkv, e, rfl⟩
  obtain ⟨a5, cap5, rfl⟩ := hP5.own.form
  have hbs5 : base ≤ w5.heap.size := Nat.le_trans hbs F5.size
  refine c_seq (fun K10 hK10 => ?_)
  refine c_reg ?_ -- region 14 write.go:43
  refine wl (ro_cmp rfl rfl rfl) ?_
  refine wl_nil (x_then (hK10 _ _ ?_))
  clear hK10 K10
  refine forget [(0, _), (1, _), (9, _), (10, _), (93, _), (94, _), (95, _), (96, _)] ⟨rfl, rfl, rfl, rfl, rfl, rfl, rfl, rfl, trivial⟩ (fun e => ?_)
  refine c_seq (fun K11 hK11 => ?_)
  refine wc_cond rfl (fun hc96 => ?_) (fun hc96 => ?_)
  · try simp only [decide_eq_true_eq, decide_eq_false_iff_not, Bool.not_eq_true', Bool.not_eq_false', Bool.not_eq_eq_eq_not, Bool.not_true, Bool.not_false, beq_iff_eq, bne_iff_ne, ne_eq, beq_eq_false_iff_ne, bne_eq_false_iff_eq, gt_iff_lt, ge_iff_le, Int.not_lt, Int.not_le] at hc96
    have him : i < ks.length := by omega
    obtain ⟨z, hz⟩ : ∃ z, ks[i]? = some z := ⟨_, List.getElem?_eq_getElem him⟩
    obtain ⟨o1, l1, rfl, hB1, hg1⟩ : ∃ o l, oa = some ⟨L.a, o, none⟩ ∧ Blk w5.heap L.a l 21 ∧ ∀ (i x : Nat), ks[i]? = some x → l[o + i * 1]? = some (i32c x) := by { rcases hkv with h | h; subst h; simp at him; exact h }
    have hdi : ks.drop i = z :: ks.drop (i + 1) := by
      rw [List.drop_eq_getElem_cons him, (List.getElem?_eq_some_iff.1 hz).2]
    rw [hdi] at hinv
    obtain ⟨sp, hsp⟩ : ∃ sp : UInt8, sp = if i = 0 then 40 else 44 := ⟨_, rfl⟩
    rw [← hsp] at hinv ⊢
    refine c_skip (x_then (hK11 _ _ ?_))
    clear hK11 K11
    refine forget [(0, _), (1, _), (9, _), (10, _), (93, _), (94, _), (95, _)] ⟨rfl, rfl, rfl, rfl, rfl, rfl, rfl, trivial⟩ (fun e => ?_)
    refine c_seq (fun K12 hK12 => ?_)
    refine c_block ?_
    refine c_seq (fun K13 hK13 => ?_)
    refine c_reg ?_ -- region 15 write.go:43
    refine wl (ro_indexAddr (et := 21) (k := 1) rfl rfl se_65 rfl (him)) ?_
    refine wl (ro_loadB rfl sc_21 (hB1) (hg1 _ _ hz)) ?_
    refine wl (ro_assign rfl) ?_
    refine wl_nil (x_then (hK13 _ _ ?_))
    clear hK13 K13
    refine forget [(0, _), (1, _), (9, _), (10, _), (12, _), (93, _), (94, _), (95, _)] ⟨rfl, rfl, rfl, rfl, rfl, rfl, rfl, rfl, trivial⟩ (fun e => ?_)
    refine c_seq (fun K14 hK14 => ?_)
    refine c_reg ?_ -- region 16 write.go:44
    refine wl (ro_move rfl) ?_
    refine wl (ro_move rfl) ?_
    refine wl (ro_nilCheck rfl) ?_
    refine wl (ro_fieldAddr (k := 0) rfl fo_143_0) ?_
    refine wl (ro_loadB rfl sc_66 (hP5.blk) (rfl)) ?_
    refine wl (ro_move rfl) ?_
    refine wle (eo_bs1 rfl rfl se_66 zx_5 rfl rfl rfl) ?_
    have hN := Blk.new w5 [u8c sp] 5
    have hP6 := hP5.none (Fram.alloc none' w5 (.cells [u8c sp].toArray 5))
    refine wl_app (news := [u8c sp]) rfl rfl se_66 zx_5 by_5 rfl hP6.own hN rfl rfl (by simp [u8c, Value.oneCell']) (by omega) (by omega) ?_
    intro V3 w3 hown hgr hloc
    obtain ⟨a3', cap3', rfl⟩ := hown.form
    have hown' : Own w3.heap (.slice a3' (out1.length + 1) cap3') 5 1 (out1 ++ [sp]).length ((out1 ++ [sp]).map u8c) := by simpa using hown
    obtain ⟨hb4, hP7, F7⟩ := hP6.wrote (V' := _) (out' := out1 ++ [sp]) (by simp; omega) hgr hown' (by intro b hb; rcases hloc with h | h; rw [h] at hb; exact hP6.loc b hb; rw [h] at hb; cases hb; simp; omega)
    refine wl (ro_nilCheck rfl) ?_
    refine wl (ro_fieldAddr (k := 0) rfl fo_143_0) ?_
    refine wls (so_storeB rfl rfl rfl sz_66 (hb4) (by simp)) ?_
    have F9 := (Fram.alloc (fun b => base ≤ b) w5 (.cells [u8c sp].toArray 5)).trans F7
    have F8 := F5.trans ((Fram.alloc _ w5 (.cells [u8c sp].toArray 5)).trans F7)
    refine gen3 (A := fun w4 => Pen base pb mb (.slice a3' (out1.length + 1) cap3') (out1 ++ [sp]) nm1 w4) (B := fun w4 => Fram (fun b => base ≤ b) w w4) (D := fun w4 => Fram (fun b => base ≤ b) w5 w4) (C := fun w4 => WL _ _ _ _ _ w4) hP7 F8 F9 ?_
    clear hP7 F8 F7 hb4 hown' hown hgr hloc hP6 hN hP5 F5 hbs5 F9
    intro w6 hP7 F7 F9
    have hB6 := hB1.fram F9 (fun h => by have := hbase _ L.foot_a; omega)
    have H7 : HeapAt w6.heap L R := H.fram F7 (fun b hb h => by have := hbase b hb; omega)
    have hbs7 : base ≤ w6.heap.size := Nat.le_trans hbs F7.size
    refine wl_nil (x_then (hK14 _ _ ?_))
    clear hK14 K14
    refine forget [(0, _), (1, _), (9, _), (12, _), (93, _), (94, _), (95, _)] ⟨rfl, rfl, rfl, rfl, rfl, rfl, rfl, trivial⟩ (fun e => ?_)
    refine c_seq (fun K15 hK15 => ?_)
    refine c_reg ?_ -- region 17 write.go:45
    refine wl (ro_assign rfl) ?_
    refine wl_nil (x_then (hK15 _ _ ?_))
    clear hK15 K15
    refine c_seq (fun K16 hK16 => ?_)
    refine c_seq (fun K17 hK17 => ?_)
    refine c_reg ?_ -- region 18 write.go:46
    refine wl (ro_move rfl) ?_
    refine wl (ro_nilCheck rfl) ?_
    refine wl (ro_fieldAddr (k := 0) rfl fo_143_0) ?_
    refine wl (ro_loadB rfl sc_66 (hP7.blk) (rfl)) ?_
    refine wl (ro_lenL rfl se_66) ?_
    refine wl (ro_cmp rfl rfl rfl) ?_
    refine wl_nil (x_then (hK17 _ _ ?_))
    clear hK17 K17
    refine wc_cond rfl (fun hc114 => ?_) (fun hc114 => ?_)
    · try simp only [decide_eq_true_eq, decide_eq_false_iff_not, Bool.not_eq_true', Bool.not_eq_false', Bool.not_eq_eq_eq_not, Bool.not_true, Bool.not_false, beq_iff_eq, bne_iff_ne, ne_eq, beq_eq_false_iff_ne, bne_eq_false_iff_eq, gt_iff_lt, ge_iff_le, Int.not_lt, Int.not_le] at hc114
      have hbig : 48 < out1.length + 1 := by omega
      simp only [putK, hbig, if_true] at hinv
      refine c_seq (fun K18 hK18 => ?_)
      refine c_reg ?_ -- region 19 write.go:47
      refine wl (ro_assign rfl) ?_
      refine wl_nil (x_then (hK18 _ _ ?_))
      clear hK18 K18
      refine c_ret (x_thenR (x_blkR (x_thenR (x_thenR (x_blkR (x_thenR ?_))))))
      refine bp_ret Tryz.results83 rfl ?_
      rw [← hinv]
      exact ⟨rfl, _, hP7, F7⟩
    · try simp only [decide_eq_true_eq, decide_eq_false_iff_not, Bool.not_eq_true', Bool.not_eq_false', Bool.not_eq_eq_eq_not, Bool.not_true, Bool.not_false, beq_iff_eq, bne_iff_ne, ne_eq, beq_eq_false_iff_ne, bne_eq_false_iff_eq, gt_iff_lt, ge_iff_le, Int.not_lt, Int.not_le] at hc114
      have hbig : ¬ 48 < out1.length + 1 := by omega
      simp only [putK, hbig, if_false] at hinv
      refine c_skip (x_then (hK16 _ _ ?_))
      clear hK16 K16
      refine forget [(0, _), (1, _), (9, _), (10, _), (12, _), (93, _), (94, _), (95, _)] ⟨rfl, rfl, rfl, rfl, rfl, rfl, rfl, rfl, trivial⟩ (fun e => ?_)
      refine c_seq (fun K19 hK19 => ?_)
      refine c_reg ?_ -- region 20 write.go:49
      refine wl (ro_move rfl) ?_
      refine wl (ro_move rfl) ?_
      refine wl (ro_move rfl) ?_
      refine wl_call rfl en_83 (IH w6 _ (out1 ++ [sp]) nm1 z H7 hbs7 hP7 (by simp; omega) (by simp; omega) (by simp; omega) (hkb z (List.mem_of_getElem? hz))) ?_
      rintro _ w8 ⟨rfl, V8, hP8, F8⟩
      obtain ⟨g1, g2, g3⟩ := putF_grows f R.abs z (out1 ++ [sp]) nm1
      simp only [List.length_append, List.length_singleton] at g1 g2
      refine wl (ro_assign rfl) ?_
      refine wl_nil (x_then (hK19 _ _ ?_))
      clear hK19 K19
      refine forget [(0, _), (1, _), (9, _), (10, _), (13, _), (93, _), (94, _), (95, _)] ⟨rfl, rfl, rfl, rfl, rfl, rfl, rfl, rfl, trivial⟩ (fun e => ?_)
      refine c_seq (fun K20 hK20 => ?_)
      refine c_reg ?_ -- region 21 write.go:50
      refine wl (ro_move rfl) ?_
      refine wl (ro_not rfl) ?_
      refine wl_nil (x_then (hK20 _ _ ?_))
      clear hK20 K20
      refine wc_cond rfl (fun hc120 => ?_) (fun hc120 => ?_)
      · try simp only [decide_eq_true_eq, decide_eq_false_iff_not, Bool.not_eq_true', Bool.not_eq_false', Bool.not_eq_eq_eq_not, Bool.not_true, Bool.not_false, beq_iff_eq, bne_iff_ne, ne_eq, beq_eq_false_iff_ne, bne_eq_false_iff_eq, gt_iff_lt, ge_iff_le, Int.not_lt, Int.not_le] at hc120
        have hno : (putF f R.abs z (out1 ++ [sp]) nm1).1 = false := by simpa using hc120
        rw [hno] at hinv
        simp only [Bool.false_eq_true, if_false] at hinv
        refine c_seq (fun K21 hK21 => ?_)
        refine c_reg ?_ -- region 22 write.go:51
        refine wl (ro_assign rfl) ?_
        refine wl_nil (x_then (hK21 _ _ ?_))
        clear hK21 K21
        refine c_ret (x_blkR (x_thenR (x_thenR (x_blkR (x_thenR ?_)))))
        refine bp_ret Tryz.results83 rfl ?_
        rw [← hinv]
        exact ⟨rfl, _, hP8, F7.trans F8⟩
      · try simp only [decide_eq_true_eq, decide_eq_false_iff_not, Bool.not_eq_true', Bool.not_eq_false', Bool.not_eq_eq_eq_not, Bool.not_true, Bool.not_false, beq_iff_eq, bne_iff_ne, ne_eq, beq_eq_false_iff_ne, bne_eq_false_iff_eq, gt_iff_lt, ge_iff_le, Int.not_lt, Int.not_le] at hc120
        have hyes : (putF f R.abs z (out1 ++ [sp]) nm1).1 = true := by simpa using hc120
        rw [hyes] at hinv
        simp only [if_true] at hinv
        refine c_skip (x_blk (x_then (hK12 _ _ ?_)))
        clear hK12 K12
        refine c_reg ?_ -- region 23 write.go:43
        refine wl (ro_arith rfl rfl rfl (Go.IntWalk.i64_in _ (by omega))) ?_
        refine wl (ro_move rfl) ?_
        refine wl_nil (x_then ?_)
        refine ⟨ks.length - (i + 1), by omega, i + 1, V8, _, _, rfl, by omega, by rw [if_neg (by omega)]; exact hinv, by omega, by have := g3 hyes; omega, g2 (by omega), hP8, F7.trans F8, ?_, kp _ ⟨rfl, rfl, rfl, ?_, rfl, rfl, rfl, trivial⟩⟩
        · refine .inr ⟨o1, l1, rfl, ?_, hg1⟩
          exact hB6.fram F8 (fun h => by have := hbase _ L.foot_a; omega)
        · rw [if_neg (by omega)]; rfl
  · try simp only [decide_eq_true_eq, decide_eq_false_iff_not, Bool.not_eq_true', Bool.not_eq_false', Bool.not_eq_eq_eq_not, Bool.not_true, Bool.not_false, beq_iff_eq, bne_iff_ne, ne_eq, beq_eq_false_iff_ne, bne_eq_false_iff_eq, gt_iff_lt, ge_iff_le, Int.not_lt, Int.not_le] at hc96
    have him : i = ks.length := by omega
    subst him
    rw [List.drop_length] at hinv
    simp only [putK] at hinv
    refine c_exit (x_thenX (x_thenX (x_blkX (x_then (hK8 _ _ ?_)))))
    clear hK11 K11 hK8 K8
    refine c_seq (fun K22 hK22 => ?_)
    refine c_seq (fun K23 hK23 => ?_)
    refine c_reg ?_ -- region 24 write.go:54
    refine wl (ro_move rfl) ?_
    refine wl (ro_lenL rfl se_65) ?_
    refine wl (ro_cmp rfl rfl rfl) ?_
    refine wl_nil (x_then (hK23 _ _ ?_))
    clear hK23 K23
    refine wc_cond rfl (fun hc124 => ?_) (fun hc124 => ?_)
    · try simp only [decide_eq_true_eq, decide_eq_false_iff_not, Bool.not_eq_true', Bool.not_eq_false', Bool.not_eq_eq_eq_not, Bool.not_true, Bool.not_false, beq_iff_eq, bne_iff_ne, ne_eq, beq_eq_false_iff_ne, bne_eq_false_iff_eq, gt_iff_lt, ge_iff_le, Int.not_lt, Int.not_le] at hc124
      have hne : ks.isEmpty = false := by cases ks with | nil => simp at hc124 | cons a b => rfl
      refine c_reg ?_ -- region 25 write.go:55
      refine wl (ro_move rfl) ?_
      refine wl (ro_move rfl) ?_
      refine wl (ro_nilCheck rfl) ?_
      refine wl (ro_fieldAddr (k := 0) rfl fo_143_0) ?_
      refine wl (ro_loadB rfl sc_66 (hP5.blk) (rfl)) ?_
      refine wle (eo_bs1 rfl rfl se_66 zx_5 rfl rfl rfl) ?_
      have hN := Blk.new w5 [u8c 41] 5
      have hP6 := hP5.none (Fram.alloc none' w5 (.cells [u8c 41].toArray 5))
      refine wl_app (news := [u8c 41]) rfl rfl se_66 zx_5 by_5 rfl hP6.own hN rfl rfl (by simp [u8c, Value.oneCell']) (by omega) (by omega) ?_
      intro V3 w3 hown hgr hloc
      obtain ⟨a3', cap3', rfl⟩ := hown.form
      have hown' : Own w3.heap (.slice a3' (out1.length + 1) cap3') 5 1 (out1 ++ [41]).length ((out1 ++ [41]).map u8c) := by simpa using hown
      obtain ⟨hb4, hP7, F7⟩ := hP6.wrote (V' := _) (out' := out1 ++ [41]) (by simp; omega) hgr hown' (by intro b hb; rcases hloc with h | h; rw [h] at hb; exact hP6.loc b hb; rw [h] at hb; cases hb; simp; omega)
      refine wl (ro_nilCheck rfl) ?_
      refine wl (ro_fieldAddr (k := 0) rfl fo_143_0) ?_
      refine wls (so_storeB rfl rfl rfl sz_66 (hb4) (by simp)) ?_
      have F8 := F5.trans ((Fram.alloc _ w5 (.cells [u8c 41].toArray 5)).trans F7)
      refine gen2 (A := fun w4 => Pen base pb mb (.slice a3' (out1.length + 1) cap3') (out1 ++ [41]) nm1 w4) (B := fun w4 => Fram (fun b => base ≤ b) w w4) (C := fun w4 => WL _ _ _ _ _ w4) hP7 F8 ?_
      clear hP7 F8 F7 hb4 hown' hown hgr hloc hP6 hN hP5 F5 hbs5
      intro w6 hP7 F7
      refine wl_nil (x_then (hK22 _ _ ?_))
      clear hK22 K22
      refine forget [(1, _)] ⟨rfl, trivial⟩ (fun e => ?_)
      refine c_seq (fun K24 hK24 => ?_)
      refine c_reg ?_ -- region 26 write.go:57
      refine wl (ro_move rfl) ?_
      refine wl (ro_nilCheck rfl) ?_
      refine wl (ro_fieldAddr (k := 0) rfl fo_143_0) ?_
      refine wl (ro_loadB rfl sc_66 (hP7.blk) (rfl)) ?_
      refine wl (ro_lenL rfl se_66) ?_
      refine wl (ro_cmp rfl rfl rfl) ?_
      refine wl (ro_assign rfl) ?_
      refine wl_nil (x_then (hK24 _ _ ?_))
      clear hK24 K24
      refine c_ret ?_
      refine bp_ret Tryz.results83 rfl ?_
      rw [← hinv, hne]
      refine ⟨congrArg Value.bool ?_, _, hP7, F7⟩
      show decide (((out1.length + 1 : Nat) : Int) ≤ 48) = decide ((out1 ++ [41]).length ≤ 48)
      simp only [List.length_append, List.length_singleton, decide_eq_decide]
      omega
    · try simp only [decide_eq_true_eq, decide_eq_false_iff_not, Bool.not_eq_true', Bool.not_eq_false', Bool.not_eq_eq_eq_not, Bool.not_true, Bool.not_false, beq_iff_eq, bne_iff_ne, ne_eq, beq_eq_false_iff_ne, bne_eq_false_iff_eq, gt_iff_lt, ge_iff_le, Int.not_lt, Int.not_le] at hc124
      have hne : ks.isEmpty = true := by cases ks with | nil => rfl | cons a b => simp at hc124; omega
      refine c_skip (x_then (hK22 _ _ ?_))
      clear hK22 K22
      refine forget [(1, _)] ⟨rfl, trivial⟩ (fun e => ?_)
      refine c_seq (fun K25 hK25 => ?_)
      refine c_reg ?_ -- region 26 write.go:57
      refine wl (ro_move rfl) ?_
      refine wl (ro_nilCheck rfl) ?_
      refine wl (ro_fieldAddr (k := 0) rfl fo_143_0) ?_
      refine wl (ro_loadB rfl sc_66 (hP5.blk) (rfl)) ?_
      refine wl (ro_lenL rfl se_66) ?_
      refine wl (ro_cmp rfl rfl rfl) ?_
      refine wl (ro_assign rfl) ?_
      refine wl_nil (x_then (hK25 _ _ ?_))
      clear hK25 K25
      refine c_ret ?_
      refine bp_ret Tryz.results83 rfl ?_
      rw [← hinv, hne]
      refine ⟨congrArg Value.bool ?_, _, hP5, F5⟩
      simp only [fin, if_true, decide_eq_decide]
      omega

theorem put83 {L : HL} {R : RH} (wf : WFc R) {base pb mb : Nat} (hbase : ∀ b, L.foot b → b < base) : ∀ f, PutOK L R base pb mb f
  | 0 => fun w V out nm a H hbs hP hout hf _ _ => by omega
  | f + 1 => fun w V out nm a H hbs hP hout hf hnm ha => by
    obtain ⟨hdl, hdt⟩ := deref_tag wf ha
    rcases hdt with hx | hx
    · exact put83v wf hbase H hbs hP hout hnm ha hx
    · exact put83s wf hbase (put83 wf hbase f) H hbs hP hout hf hnm ha hx

end Go.Proofs.Qxb6500569aGreat
