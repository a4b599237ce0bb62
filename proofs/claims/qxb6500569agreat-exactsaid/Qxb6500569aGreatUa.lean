import Derived.Test.Qxb6500569aGreatFz
/- The real reader: its state, trees in memory, peek, fail, expect. -/
namespace Go.Proofs.Qxb6500569aGreat
set_option linter.unusedVariables false
set_option linter.unusedSimpArgs false

def vml (vs : List UInt8) : List (UInt8 × Value) := vs.zipIdx.map (fun p => (p.1, i64c p.2))

theorem look_zipv : ∀ (nm : List UInt8) (k : Nat) (x : UInt8), look ((nm.zipIdx k).map (fun p => (p.1, i64c p.2))) x = if x ∈ nm then some (nm.idxOf x, i64c (k + nm.idxOf x)) else none
  | [], k, x => by simp [look]
  | y :: nm, k, x => by
    simp only [List.zipIdx_cons, List.map_cons, look]
    by_cases h : x = y
    · subst h; simp
    · have h' : ¬ y = x := fun e => h e.symm
      rw [if_neg h, look_zipv nm (k + 1) x]
      have hb : (y == x) = false := by simp [h']
      by_cases hx : x ∈ nm
      · simp only [hx, if_true, List.mem_cons, h, false_or, Option.map_some, List.idxOf_cons, hb, cond_false]
        congr 3
        omega
      · simp [hx, h]

theorem look_vml (nm : List UInt8) (x : UInt8) : look (vml nm) x = if x ∈ nm then some (nm.idxOf x, i64c (nm.idxOf x)) else none := by
  have := look_zipv nm 0 x
  simpa [vml] using this

theorem vml_add (nm : List UInt8) (x : UInt8) (h : x ∉ nm) : ups (vml nm) x (i64c nm.length) = vml (nm ++ [x]) := by
  unfold ups
  rw [look_vml, if_neg h]
  simp [vml, List.zipIdx_append]

theorem keyU8 : KeyT Tryz.prog 5 u8c := keyInt (f := fun a : UInt8 => (a.toNat : Int)) in_5 (fun a b h => UInt8.toNat_inj.1 (by omega))
theorem mp_150 : Tryz.prog.underlying 150 = some (.map 5 3) := by kernel_rfl

/-- The reader in memory. -/
structure RD (H : Array Obj) (rb mb : Nat) (s : List UInt8) (p : Nat) (vs : List UInt8) : Prop where
  blk : Blk H rb [S s, i64c p, .map (some mb)] 152
  map : MapAt u8c H mb (vml vs)

def RF (rb mb : Nat) : Nat → Prop := fun b => b = rb ∨ b = mb

theorem RD.none {w w' : World} {rb mb p : Nat} {s vs : List UInt8} (h : RD w.heap rb mb s p vs) (hf : Fram none' w w') : RD w'.heap rb mb s p vs := ⟨h.blk.fram hf (fun h => h), h.map.fram hf (fun h => h)⟩

theorem RD.fram {F : Nat → Prop} {w w' : World} {rb mb p : Nat} {s vs : List UInt8} (h : RD w.heap rb mb s p vs) (hf : Fram F w w') (h1 : ¬ F rb) (h2 : ¬ F mb) : RD w'.heap rb mb s p vs := ⟨h.blk.fram hf h1, h.map.fram hf h2⟩

/-- The place moves. -/
theorem RD.move {w : World} {rb mb p : Nat} {s vs : List UInt8} (h : RD w.heap rb mb s p vs) (q : Nat) : RD (w.setRow rb [S s, i64c q, .map (some mb)].toArray).heap rb mb s q vs ∧ Fram (RF rb mb) w (w.setRow rb [S s, i64c q, .map (some mb)].toArray) := by
  have F1 : Fram (fun b => b = rb) w (w.setRow rb [S s, i64c q, .map (some mb)].toArray) := Fram.set w rb _ (.inl rfl)
  exact ⟨⟨h.blk.set _, h.map.fram F1 (fun e => h.map.blk_ne h.blk e)⟩, F1.mono (fun k _ hx => .inl hx)⟩

/- Trees. -/
structure TI where
  code : List UInt8
  text : List UInt8
  m : Nat
  B : List Nat

def joinT : List TI → List UInt8
  | [] => []
  | [a] => a.text
  | a :: b :: l => a.text ++ 44 :: joinT (b :: l)

def maxM (ks : List TI) : Nat := ks.foldr (fun k x => max k.m x) 0

def blkB (VA : Value) : List Nat := match VA.ownBlock with | some b => [b] | none => []

structure CallB (T : Value → TI → Prop) (H : Array Obj) (cb : Nat) (c : UInt8) (VA : Value) (ks : List (Value × TI)) (B : List Nat) : Prop where
  blk : Blk H cb [u8c c, VA] 193
  own : Own H VA 195 1 ks.length (ks.map (·.1))
  kids : ∀ k ∈ ks, T k.1 k.2
  bs : B = cb :: (blkB VA ++ ks.flatMap (·.2.B))

def codeC (c : UInt8) (ks : List TI) : List UInt8 := c :: UInt8.ofNat (48 + ks.length) :: ks.flatMap (·.code)
def textC (c : UInt8) (ks : List TI) : List UInt8 := c :: (if ks = [] then [] else 40 :: (joinT ks ++ [41]))

/-- A tree, in so many levels. -/
def TAt : Nat → Array Obj → Value → TI → Prop
  | 0, _, _, _ => False
  | d + 1, H, v, i => (∃ (c : UInt8) (n : Nat), v = .iface 214 (.agg #[u8c c, i64c n]) ∧ n ≤ 100 ∧ i = ⟨[UInt8.ofNat (65 + n)], [c], n + 1, []⟩) ∨
      (v = .iface 220 (.agg #[]) ∧ i = ⟨[33, 48], [33], 0, []⟩) ∨
      (∃ cb c VA ks, v = .iface 155 (ptr cb) ∧ CallB (TAt d H) H cb c VA ks i.B ∧ ks.length ≤ 3 ∧ i.code = codeC c (ks.map (·.2)) ∧ i.text = textC c (ks.map (·.2)) ∧ i.m = maxM (ks.map (·.2)) ∧ isLo c = true)

theorem CallB.mono {T T' : Value → TI → Prop} {H : Array Obj} {cb : Nat} {c : UInt8} {VA : Value} {ks : List (Value × TI)} {B : List Nat} (h : CallB T H cb c VA ks B) (hT : ∀ v i, T v i → T' v i) : CallB T' H cb c VA ks B :=
  ⟨h.blk, h.own, fun k hk => hT _ _ (h.kids k hk), h.bs⟩

theorem TAt.mono : ∀ {d d' : Nat} {H : Array Obj} {v : Value} {i : TI}, TAt d H v i → d ≤ d' → TAt d' H v i
  | 0, _, _, _, _, h, _ => h.elim
  | d + 1, 0, _, _, _, h, hd => by omega
  | d + 1, d' + 1, H, v, i, h, hd => by
    rcases h with h | h | ⟨cb, c, VA, ks, h1, h2, h3⟩
    · exact .inl h
    · exact .inr (.inl h)
    · exact .inr (.inr ⟨cb, c, VA, ks, h1, h2.mono (fun v i h => TAt.mono h (by omega)), h3⟩)

theorem blkB_mem {VA : Value} {b : Nat} (h : VA.ownBlock = some b) : b ∈ blkB VA := by unfold blkB; rw [h]; simp

theorem CallB.fram {T T' : Value → TI → Prop} {F : Nat → Prop} {w w' : World} {cb : Nat} {c : UInt8} {VA : Value} {ks : List (Value × TI)} {B : List Nat} (h : CallB T w.heap cb c VA ks B) (hf : Fram F w w') (hn : ∀ b ∈ B, ¬ F b) (hT : ∀ k ∈ ks, (∀ b ∈ k.2.B, ¬ F b) → T k.1 k.2 → T' k.1 k.2) : CallB T' w'.heap cb c VA ks B := by
  have hs := h.bs
  refine ⟨h.blk.fram hf (hn cb (by rw [hs]; simp)), h.own.fram hf (fun b hb => hn b (by rw [hs]; simp [blkB_mem hb])), fun k hk => hT k hk (fun b hb => hn b ?_) (h.kids k hk), hs⟩
  rw [hs]
  simp only [List.mem_cons, List.mem_append, List.mem_flatMap]
  exact .inr (.inr ⟨k, hk, hb⟩)

theorem TAt.fram : ∀ {d : Nat} {F : Nat → Prop} {w w' : World} {v : Value} {i : TI}, TAt d w.heap v i → Fram F w w' → (∀ b ∈ i.B, ¬ F b) → TAt d w'.heap v i
  | 0, _, _, _, _, _, h, _, _ => h.elim
  | d + 1, F, w, w', v, i, h, hf, hn => by
    rcases h with h | h | ⟨cb, c, VA, ks, h1, h2, h3⟩
    · exact .inl h
    · exact .inr (.inl h)
    · exact .inr (.inr ⟨cb, c, VA, ks, h1, h2.fram hf hn (fun k hk hb h => TAt.fram h hf hb), h3⟩)

theorem CallB.lt {T : Value → TI → Prop} {w : World} {cb : Nat} {c : UInt8} {VA : Value} {ks : List (Value × TI)} {B : List Nat} (h : CallB T w.heap cb c VA ks B) (hT : ∀ v i, T v i → ∀ b ∈ i.B, b < w.heap.size) : ∀ b ∈ B, b < w.heap.size := by
  intro b hb
  rw [h.bs] at hb
  simp only [List.mem_cons, List.mem_append, List.mem_flatMap] at hb
  rcases hb with rfl | hb | ⟨k, hk, hb⟩
  · exact h.blk.lt
  · unfold blkB at hb
    split at hb
    · rename_i b' hb'
      simp at hb; subst hb
      exact h.own.lt hb'
    · cases hb
  · exact hT _ _ (h.kids k hk) b hb

theorem TAt.lt : ∀ {d : Nat} {w : World} {v : Value} {i : TI}, TAt d w.heap v i → ∀ b ∈ i.B, b < w.heap.size
  | 0, _, _, _, h => h.elim
  | d + 1, w, v, i, h => by
    rcases h with ⟨c, n, _, _, rfl⟩ | ⟨_, rfl⟩ | ⟨cb, c, VA, ks, h1, h2, h3⟩
    · intro b hb; cases hb
    · intro b hb; cases hb
    · exact h2.lt (fun v i h => TAt.lt h)

theorem peek119 {w : World} {rb mb : Nat} {s : List UInt8} {p : Nat} {vs : List UInt8} (h : RD w.heap rb mb s p vs) (hp : p ≤ 1000000) (hs : s.length ≤ 1000000) : Ret Tryz.prog 119 [ptr rb] w (fun r w' => r = u8c (pk (s.drop p)) ∧ Fram none' w w') := by
  have hB := h.blk
  refine ret_of Tryz.func119 rfl Tryz.ntmps119 rfl ?_
  refine c_seq (fun K1 hK1 => ?_)
  refine c_reg ?_ -- region 0 reader.go:73
  refine wl (ro_assign rfl) ?_
  refine wl_nil (x_then (hK1 _ _ ?_))
  clear hK1 K1
  refine c_seq (fun K2 hK2 => ?_)
  refine c_seq (fun K3 hK3 => ?_)
  refine c_pi [(0, false), (1, false), (2, false), (3, false), (4, false), (5, false), (6, false), (7, false), (8, false), (9, false)] (SameH w.heap) mixed (by kernel_rfl) rfl (by kernel_rfl) (po_then (po_then (po_bp))) (rfl) ?_ -- region 1 reader.go:74
  refine pi_ro rfl (fun w hS => ro_move rfl) ?_
  refine pi_ro rfl (fun w hS => ro_nilCheck rfl) ?_
  refine pi_ro rfl (fun w hS => ro_fieldAddr (k := 1) rfl fo_152_1) ?_
  refine pi_ro rfl (fun w hS => ro_loadB rfl sc_3 (Blk.of_heap hB hS) rfl) ?_
  refine pi_ro rfl (fun w hS => ro_move rfl) ?_
  refine pi_ro rfl (fun w hS => ro_nilCheck rfl) ?_
  refine pi_ro rfl (fun w hS => ro_fieldAddr (k := 0) rfl fo_152_0) ?_
  refine pi_ro rfl (fun w hS => ro_loadB rfl sc_9 (Blk.of_heap hB hS) rfl) ?_
  refine pi_ro rfl (fun w hS => ro_lenS rfl st_9) ?_
  refine pi_ro rfl (fun w hS => ro_cmp rfl rfl rfl) ?_
  refine pi_nil (x_then (hK3 _ _ ?_))
  clear hK3 K3
  refine wc_cond rfl (fun hc12 => ?_) (fun hc12 => ?_)
  · try simp only [decide_eq_true_eq, decide_eq_false_iff_not, Bool.not_eq_true', Bool.not_eq_false', Bool.not_eq_eq_eq_not, Bool.not_true, Bool.not_false, beq_iff_eq, bne_iff_ne, ne_eq, beq_eq_false_iff_ne, bne_eq_false_iff_eq, gt_iff_lt, ge_iff_le, Int.not_lt, Int.not_le] at hc12
    have hpl : p < s.length := by omega
    obtain ⟨c, hc⟩ : ∃ c, s[p]? = some c := ⟨_, List.getElem?_eq_getElem hpl⟩
    have hpk : pk (s.drop p) = c := by
      rw [List.drop_eq_getElem_cons hpl, (List.getElem?_eq_some_iff.1 hc).2]; rfl
    refine c_seq (fun K4 hK4 => ?_)
    refine c_pi [(0, false), (1, false), (2, false), (3, false), (4, false), (5, false), (6, false), (7, false), (8, false), (9, false)] (SameH w.heap) mixed (by kernel_rfl) rfl (by kernel_rfl) (po_then (po_then (po_bp))) (rfl) ?_ -- region 2 reader.go:75
    refine pi_ro rfl (fun w hS => ro_move rfl) ?_
    refine pi_ro rfl (fun w hS => ro_nilCheck rfl) ?_
    refine pi_ro rfl (fun w hS => ro_fieldAddr (k := 0) rfl fo_152_0) ?_
    refine pi_ro rfl (fun w hS => ro_loadB rfl sc_9 (Blk.of_heap hB hS) rfl) ?_
    refine pi_ro rfl (fun w hS => ro_move rfl) ?_
    refine pi_ro rfl (fun w hS => ro_nilCheck rfl) ?_
    refine pi_ro rfl (fun w hS => ro_fieldAddr (k := 1) rfl fo_152_1) ?_
    refine pi_ro rfl (fun w hS => ro_loadB rfl sc_3 (Blk.of_heap hB hS) rfl) ?_
    refine pi_ro rfl (fun w hS => ro_indexS rfl rfl st_9 (rfl) (hc)) ?_
    refine pi_ro rfl (fun w hS => ro_assign rfl) ?_
    refine pi_nil (x_then (hK4 _ _ ?_))
    clear hK4 K4
    refine c_ret (x_thenR ?_)
    refine bp_ret Tryz.results119 rfl ?_
    exact ⟨by rw [hpk]; rfl, (Fram.drew none' w (w.drawn + 1)).trans (Fram.drew none' _ _)⟩
  · try simp only [decide_eq_true_eq, decide_eq_false_iff_not, Bool.not_eq_true', Bool.not_eq_false', Bool.not_eq_eq_eq_not, Bool.not_true, Bool.not_false, beq_iff_eq, bne_iff_ne, ne_eq, beq_eq_false_iff_ne, bne_eq_false_iff_eq, gt_iff_lt, ge_iff_le, Int.not_lt, Int.not_le] at hc12
    have hpl : s.length ≤ p := by omega
    refine c_skip (x_then (hK2 _ _ ?_))
    clear hK2 K2
    refine forget [] trivial (fun e => ?_)
    refine c_seq (fun K5 hK5 => ?_)
    refine c_reg ?_ -- region 3 reader.go:77
    refine wl (ro_assign rfl) ?_
    refine wl_nil (x_then (hK5 _ _ ?_))
    clear hK5 K5
    refine c_ret ?_
    refine bp_ret Tryz.results119 rfl ?_
    refine ⟨?_, Fram.drew none' w (w.drawn + 1)⟩
    rw [List.drop_of_length_le hpl]; rfl

/-- A panic of the reader's own. -/
def EPan (rb mb : Nat) (w : World) (pv : Value) (w' : World) : Prop := ∃ b, pv = .iface 147 (ptr b) ∧ Fram (RF rb mb) w w'

theorem EPan.after {rb mb : Nat} {w w1 w' : World} {pv : Value} (h : EPan rb mb w1 pv w') (F : Fram (RF rb mb) w w1) : EPan rb mb w pv w' := by
  obtain ⟨b, h1, h2⟩ := h; exact ⟨b, h1, F.trans h2⟩

theorem fail120 {w : World} {rb mb : Nat} {s : List UInt8} {p : Nat} {vs : List UInt8} (h : RD w.heap rb mb s p vs) (want : List UInt8) : RetP Tryz.prog 120 [ptr rb, S want] w (fun _ _ => False) (EPan rb mb w) := by
  have hB := h.blk
  refine retp_of Tryz.func120 rfl Tryz.ntmps120 rfl ?_
  refine c_reg ?_ -- region 0 reader.go:69
  refine wl (ro_move rfl) ?_
  refine wl (ro_nilCheck rfl) ?_
  refine wl (ro_fieldAddr (k := 1) rfl fo_152_1) ?_
  refine wl (ro_loadB rfl sc_3 (by assumption) rfl) ?_
  refine wl (ro_move rfl) ?_
  refine wl (ro_build rfl bld_212_0_1) ?_
  refine wle (eo_box rfl rfl) ?_
  refine wl (ro_mkIface rfl (by kernel_rfl)) ?_
  refine wl_panic rfl ?_
  exact bpp_pan ⟨w.heap.size, rfl, Fram.alloc _ _ _⟩

theorem expect117 {w : World} {rb mb : Nat} {s : List UInt8} {p : Nat} {vs : List UInt8} (h : RD w.heap rb mb s p vs) (hp : p ≤ 1000000) (hs : s.length ≤ 1000000) (c : UInt8) (want : List UInt8) :
    RetP Tryz.prog 117 [ptr rb, u8c c, S want] w (fun _ w' => pk (s.drop p) = c ∧ RD w'.heap rb mb s (p + 1) vs ∧ Fram (RF rb mb) w w') (fun pv w' => pk (s.drop p) ≠ c ∧ EPan rb mb w pv w') := by
  refine retp_of Tryz.func117 rfl Tryz.ntmps117 rfl ?_
  refine c_seq (fun K1 hK1 => ?_)
  refine c_seq (fun K2 hK2 => ?_)
  refine c_reg ?_ -- region 0 reader.go:82
  refine wl (ro_move rfl) ?_
  refine wl_call rfl en_119 (peek119 h hp hs) ?_
  rintro _ w1 ⟨rfl, F1⟩
  have h1 := h.none F1
  have hB := h1.blk
  have F01 : Fram (RF rb mb) w w1 := F1.mono (fun _ _ h => h.elim)
  refine wl (ro_move rfl) ?_
  refine wl (ro_cmp (r := !decide (pk (s.drop p) = c)) rfl rfl (congrArg some (congrArg not (beqb _ _)))) ?_
  refine wl_nil (x_then (hK2 _ _ ?_))
  clear hK2 K2
  refine wc_cond rfl (fun hc9 => ?_) (fun hc9 => ?_)
  · try simp only [decide_eq_true_eq, decide_eq_false_iff_not, Bool.not_eq_true', Bool.not_eq_false', Bool.not_eq_eq_eq_not, Bool.not_true, Bool.not_false, beq_iff_eq, bne_iff_ne, ne_eq, beq_eq_false_iff_ne, bne_eq_false_iff_eq, gt_iff_lt, ge_iff_le, Int.not_lt, Int.not_le] at hc9
    have hne : pk (s.drop p) ≠ c := by simpa using hc9
    refine c_reg ?_ -- region 1 reader.go:83
    refine wl (ro_move rfl) ?_
    refine wl (ro_move rfl) ?_
    refine wl_callP rfl en_120 (fail120 h1 want) (fun pv w9 hE => bpp_pan (P := Tryz.prog) (fn := Tryz.f117) (⟨hne, hE.after F01⟩)) ?_
    rintro _ _ ⟨⟩
  · try simp only [decide_eq_true_eq, decide_eq_false_iff_not, Bool.not_eq_true', Bool.not_eq_false', Bool.not_eq_eq_eq_not, Bool.not_true, Bool.not_false, beq_iff_eq, bne_iff_ne, ne_eq, beq_eq_false_iff_ne, bne_eq_false_iff_eq, gt_iff_lt, ge_iff_le, Int.not_lt, Int.not_le] at hc9
    have heq : pk (s.drop p) = c := by simpa using hc9
    refine c_skip (x_then (hK1 _ _ ?_))
    clear hK1 K1
    refine c_reg ?_ -- region 2 reader.go:85
    refine wl (ro_move rfl) ?_
    refine wl (ro_nilCheck rfl) ?_
    refine wl (ro_fieldAddr (k := 1) rfl fo_152_1) ?_
    refine wl (ro_loadB rfl sc_3 (by assumption) rfl) ?_
    refine wl (ro_arith rfl rfl rfl (Go.IntWalk.i64_in _ (by omega))) ?_
    refine wl (ro_nilCheck rfl) ?_
    refine wl (ro_fieldAddr (k := 1) rfl fo_152_1) ?_
    refine wls (so_storeB rfl rfl rfl sz_3 (hB) (by simp)) ?_
    obtain ⟨h2, F2⟩ := h1.move (p + 1)
    refine wl_nil ?_
    refine bpp_end Tryz.results117 rfl ?_
    exact ⟨heq, h2, F01.trans F2⟩

end Go.Proofs.Qxb6500569aGreat
