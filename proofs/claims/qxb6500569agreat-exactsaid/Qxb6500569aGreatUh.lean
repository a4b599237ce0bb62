import Derived.Test.Qxb6500569aGreatUg
/- The real reader: parse. -/
namespace Go.Proofs.Qxb6500569aGreat
set_option linter.unusedVariables false
set_option linter.unusedSimpArgs false

theorem np_n {Q : Exit → Act → World → Prop} {a : Act} {w : World} (h : Q .normal a w) : NP Q .normal a w := h

theorem en_89 : Enters Tryz.prog 89 := enters_of Tryz.func89 (by kernel_rfl) (by kernel_rfl)
theorem if_20 : Tryz.prog.underlying 20 = some (.interface (Tryz.prog.methodsAt 20)) := by kernel_rfl
theorem if_106 : Tryz.prog.underlying 106 = some (.interface (Tryz.prog.methodsAt 106)) := by kernel_rfl
theorem ni_147 : notIf Tryz.prog 147 = true := by kernel_rfl

theorem catch89i (a b : Nat) (w : World) : CallsD Tryz.prog 89 #[ptr a, ptr b] .returning w (fun e u' w' => e = .returned (.tuple #[]) ∧ u' = .returning ∧ w' = w) := by
  refine callsD_of_wpS Tryz.func89 rfl fun c₀ cs hu => ?_
  rw [Tryz.ntmps89, show (#[ptr a, ptr b] : Array Value) = [ptr a, ptr b].toArray from rfl, fr_ini _ (by simp)]
  refine wpS_seq (wpS_region ?_)
  refine ws_rec2 (v := .nilIface) (cs' := c₀ :: cs) (by decide) (.inr ⟨by simp [recoverD, hu], rfl, rfl⟩) ?_
  refine wpS_of_wp (WC.out ?_)
  refine c_seq (fun K1 hK1 => ?_)
  refine c_seq (fun K2 hK2 => ?_)
  refine c_reg ?_ -- region 1 reader.go:29
  refine wl (ro_move rfl) ?_
  refine wl (ro_eqNilN rfl if_20) ?_
  refine wl_nil (x_then (hK2 _ _ ?_))
  clear hK2 K2
  refine wc_condT rfl ?_
  refine c_ret (x_thenR ?_)
  refine ⟨rfl, .returning, ?_, .tuple #[], results_fr Tryz.results89 rfl, rfl, rfl, rfl⟩
  cases c₀
  simp_all

theorem catch89p (a b sb : Nat) (w : World) {x y : Value} (ha : Blk w.heap a [x] 104) (hb : Blk w.heap b [y] 106) :
    CallsD Tryz.prog 89 #[ptr a, ptr b] (.panicking [{ v := .iface 147 (ptr sb), recovered := false }]) w (fun e u' w' => e = .returned (.tuple #[]) ∧ u' = .panicking [{ v := .iface 147 (ptr sb), recovered := true }] ∧ Blk w'.heap a [.pointer none] 104 ∧ Blk w'.heap b [.iface 147 (ptr sb)] 106 ∧ Fram (fun k => k = a ∨ k = b) w w') := by
  have hab : a ≠ b := by
    intro h
    subst h
    have := ha.symm.trans hb
    injection this with this
    injection this with _ this
    exact absurd this (by decide)
  refine callsD_of_wpS Tryz.func89 rfl fun c₀ cs hu => ?_
  rw [Tryz.ntmps89, show (#[ptr a, ptr b] : Array Value) = [ptr a, ptr b].toArray from rfl, fr_ini _ (by simp)]
  refine wpS_seq (wpS_region ?_)
  refine ws_rec2 (v := .iface 147 (ptr sb)) (cs' := { c₀ with mode := .panicking [{ v := .iface 147 (ptr sb), recovered := true }] } :: cs) (by decide) (.inl (by simp [recoverD, hu])) ?_
  refine wpS_of_wp (WC.out ?_)
  refine c_seq (fun K1 hK1 => ?_)
  refine c_seq (fun K2 hK2 => ?_)
  refine c_reg ?_ -- region 1 reader.go:29
  refine wl (ro_move rfl) ?_
  refine wl (ro_eqNilI rfl if_20) ?_
  refine wl_nil (x_then (hK2 _ _ ?_))
  clear hK2 K2
  refine wc_condF rfl ?_
  refine c_skip (x_then (hK1 _ _ ?_))
  clear hK1 K1
  refine forget [(0, _), (1, _), (2, _)] ⟨rfl, rfl, rfl, trivial⟩ (fun e => ?_)
  refine c_seq (fun K3 hK3 => ?_)
  refine c_reg ?_ -- region 2 reader.go:32
  refine wl (ro_move rfl) ?_
  refine wl (ro_taY rfl ni_147) ?_
  refine wl (ro_move rfl) ?_
  refine wl (ro_extract rfl rfl) ?_
  refine wl (ro_extract rfl rfl) ?_
  refine wl (ro_assign rfl) ?_
  refine wl (ro_assign rfl) ?_
  refine wl_nil (x_then (hK3 _ _ ?_))
  clear hK3 K3
  refine c_seq (fun K4 hK4 => ?_)
  refine c_seq (fun K5 hK5 => ?_)
  refine c_reg ?_ -- region 3 reader.go:33
  refine wl (ro_move rfl) ?_
  refine wl (ro_not rfl) ?_
  refine wl_nil (x_then (hK5 _ _ ?_))
  clear hK5 K5
  refine wc_condF rfl ?_
  refine c_skip (x_then (hK4 _ _ ?_))
  clear hK4 K4
  refine c_reg ?_ -- region 5 reader.go:36
  refine wl (ro_move rfl) ?_
  refine wl (ro_mkIface rfl (by kernel_rfl)) ?_
  refine wls (so_storeB rfl rfl rfl sz_104 (ha) (by simp)) ?_
  have F1 : Fram (fun k => k = a ∨ k = b) w (w.setRow a [.pointer none].toArray) := Fram.set w a _ (.inl (.inl rfl))
  have ha1 := ha.set [.pointer none]
  have hb1 : Blk (w.setRow a [.pointer none].toArray).heap b [y] 106 := hb.fram (Fram.set (F := fun k => k = a) w a _ (.inl rfl)) (fun h => hab h.symm)
  refine wls (so_storeB rfl rfl rfl sz_106 (hb1) (by simp)) ?_
  have F2 : Fram (fun k => k = a ∨ k = b) (w.setRow a [.pointer none].toArray) (World.setRow (w.setRow a [.pointer none].toArray) b [.iface 147 (ptr sb)].toArray) := Fram.set _ b _ (.inl (.inr rfl))
  have hb2 := hb1.set [.iface 147 (ptr sb)]
  have ha2 : Blk (World.setRow (w.setRow a [.pointer none].toArray) b [.iface 147 (ptr sb)].toArray).heap a [.pointer none] 104 := ha1.fram (Fram.set (F := fun k => k = b) _ b _ (.inl rfl)) (fun h => hab h)
  refine wl_nil ?_
  exact ⟨rfl, _, rfl, .tuple #[], results_fr Tryz.results89 rfl, rfl, rfl, ha2, hb2, F1.trans F2⟩

/-- A clause's (a query's) tree in memory: its text, its code, its blocks. -/
def ClAt (H : Array Obj) (clb : Nat) (q : Bool) (s code : List UInt8) (Bs : List Nat) : Prop :=
  ∃ rtb VA ks B, Blk H clb [ptr rtb] 174 ∧ CallB (TAt 41 H) H rtb (rootF q) VA ks B ∧ code = rootF q :: UInt8.ofNat (48 + ks.length) :: ks.flatMap (·.2.code) ∧ textR q (ks.map (·.2)) = s ∧ (q = false → ∃ cb i ks', ks = ((Value.iface 155 (ptr cb), i) : Value × TI) :: ks') ∧ ks.length ≤ 4 ∧ maxM (ks.map (·.2)) ≤ 6 ∧ Bs = clb :: B

theorem ClAt.fram {F : Nat → Prop} {w w' : World} {clb : Nat} {q : Bool} {s code : List UInt8} {Bs : List Nat} (h : ClAt w.heap clb q s code Bs) (hf : Fram F w w') (hn : ∀ b ∈ Bs, ¬ F b) : ClAt w'.heap clb q s code Bs := by
  obtain ⟨rtb, VA, ks, B, h1, h2, h3, h4, h5, h6, h8, h7⟩ := h
  refine ⟨rtb, VA, ks, B, h1.fram hf (hn clb (by rw [h7]; simp)), h2.fram hf (fun b hb => hn b (by rw [h7]; simp [hb])) (fun k hk hb h => h.fram hf hb), h3, h4, h5, h6, h8, h7⟩

def ParsePost (s : List UInt8) (q : Bool) (w : World) (v : Value) (w' : World) : Prop :=
  Fram none' w w' ∧ ((∃ code clb Bs, compS s q = some code ∧ v = .tuple #[ptr clb, .nilIface] ∧ ClAt w'.heap clb q s code Bs ∧ ∀ b ∈ Bs, w.heap.size ≤ b) ∨ (compS s q = none ∧ ∃ b, v = .tuple #[.pointer none, .iface 147 (ptr b)]))

theorem parse51 {w : World} {s : List UInt8} (hs : s.length ≤ 40) (query : Bool) : Ret Tryz.prog 51 [S s, .bool query] w (ParsePost s query w) := by
  obtain ⟨cb, hcb⟩ : ∃ cb, cb = w.heap.size := ⟨_, rfl⟩
  obtain ⟨eb, heb⟩ : ∃ eb, eb = w.heap.size + 1 := ⟨_, rfl⟩
  obtain ⟨dfr, hdfr⟩ : ∃ d : Deferred, d = { target := .fn (.func 89) [ptr cb, ptr eb].toArray, args := #[] } := ⟨_, rfl⟩
  have hinv : ∀ w' : World, (invoke (.fn (.func 89) [ptr cb, ptr eb].toArray) #[]).run Tryz.prog w' = .ok (.enter 89 #[ptr cb, ptr eb]) w' := fun w' => by
    have := en_89 #[ptr cb, ptr eb] w'
    simp [invoke, this]
  have hpan : ∀ (e' : Nat → Option Value) (w9 : World) (b : Nat) (x y : Value), evO 21 e' (.tmp 4) = some (ptr cb) → evO 21 e' (.tmp 5) = some (ptr eb) → Blk w9.heap cb [x] 104 → Blk w9.heap eb [y] 106 → Fram none' w w9 → compS s query = none →
      BPd Tryz.prog Tryz.f51 (ParsePost s query w) (.panic [{ v := .iface 147 (ptr b), recovered := false }]) (Fr 21 e' [dfr]) w9 := by
    intro e' w9 b x y h4 h5 hA hB hF hN
    show Leaves _ _ _ _ [dfr] _ _
    rw [hdfr]
    refine leaves_cons (f := 89) (args := #[ptr cb, ptr eb]) (by simp) (hinv w9) ?_
    refine (catch89p cb eb b w9 hA hB).mono ?_
    rintro e u' w' ⟨rfl, rfl, hA', hB', hF'⟩
    refine ⟨_, results_cell2 Tryz.results51 h4 h5 sc_104 sc_106 hA' hB', _, rfl, hF.trans' hF' (fun k hk hx => by omega), .inr ⟨hN, b, rfl⟩⟩
  have hidle : ∀ (e' : Nat → Option Value) (w9 : World) (x y : Value), evO 21 e' (.tmp 4) = some (ptr cb) → evO 21 e' (.tmp 5) = some (ptr eb) → Blk w9.heap cb [x] 104 → Blk w9.heap eb [y] 106 → ParsePost s query w (.tuple #[x, y]) w9 →
      BPd Tryz.prog Tryz.f51 (ParsePost s query w) .ret (Fr 21 e' [dfr]) w9 := by
    intro e' w9 x y h4 h5 hA hB hP
    show Leaves _ _ _ _ [dfr] _ _
    rw [hdfr]
    refine leaves_cons (f := 89) (args := #[ptr cb, ptr eb]) (by simp) (hinv w9) ?_
    refine (catch89i cb eb w9).mono ?_
    rintro e u' w' ⟨rfl, rfl, rfl⟩
    exact ⟨_, results_cell2 Tryz.results51 h4 h5 sc_104 sc_106 hA hB, _, rfl, hP⟩
  have hcr := compS_read s query
  have hce : cb ≠ eb := by omega
  refine retd_of Tryz.func51 rfl Tryz.ntmps51 rfl ?_
  refine c_seq (fun K1 hK1 => ?_)
  refine c_reg ?_ -- region 0 reader.go:26
  refine wle (eo_alloc ze_104) ?_
  have hA := Blk.new w [.pointer none] 104
  refine wle (eo_alloc ze_106) ?_
  have hB := Blk.new (w.alloc (.cells [.pointer none].toArray 104)) [.nilIface] 106
  have hA1 := hA.alloc (.cells [.nilIface].toArray 106)
  have F1 := (Fram.alloc none' w (.cells [.pointer none].toArray 104)).thenAlloc (o := .cells [.nilIface].toArray 106)
  have hsz : (w.alloc (.cells [.pointer none].toArray 104)).heap.size = eb := by simp [heb]
  rw [← hcb] at hA1 ⊢
  rw [hsz] at hB ⊢
  refine gen3 (A := fun w1 => Blk w1.heap cb [.pointer none] 104) (B := fun w1 => Blk w1.heap eb [.nilIface] 106) (D := fun w1 => Fram none' w w1) (C := fun w1 => WL _ _ _ _ _ w1) hA1 hB F1 ?_
  clear hA hA1 hB F1 hsz
  intro w1 hA hB F1
  refine wl_nil (x_then (hK1 _ _ ?_))
  clear hK1 K1
  refine forget [(0, _), (1, _), (4, _), (5, _)] ⟨rfl, rfl, rfl, rfl, trivial⟩ (fun e => ?_)
  refine c_seq (fun K2 hK2 => ?_)
  refine c_reg ?_ -- region 1 reader.go:27
  refine wl (ro_makeFunc (caps := [.tmp 4, .tmp 5]) rfl) ?_
  refine wl_defer (f := 89) (cs := [ptr cb, ptr eb]) rfl ?_
  rw [← hdfr]
  refine wl_nil (x_then (hK2 _ _ ?_))
  clear hK2 K2
  refine forget [(0, _), (1, _), (4, _), (5, _)] ⟨rfl, rfl, rfl, rfl, trivial⟩ (fun e => ?_)
  refine c_seq (fun K3 hK3 => ?_)
  refine c_reg ?_ -- region 2 reader.go:38
  refine wl (ro_move rfl) ?_
  refine wle eo_makeMap ?_
  have hM := MapAt.new (kv := u8c) w1
  have hA2 := hA.alloc (.map #[] 0)
  have hB2 := hB.alloc (.map #[] 0)
  have F2 := F1.thenAlloc (o := .map #[] 0)
  have hsz1 := F1.size
  obtain ⟨mb, hmb⟩ : ∃ mb, mb = w1.heap.size := ⟨_, rfl⟩
  refine gen3 (A := fun w2 => Blk w2.heap cb [.pointer none] 104 ∧ Blk w2.heap eb [.nilIface] 106) (B := fun w2 => MapAt u8c w2.heap w1.heap.size ([] : List (UInt8 × Value))) (D := fun w2 => Fram none' w w2) (C := fun w2 => WL _ _ _ _ _ w2) ⟨hA2, hB2⟩ hM F2 ?_
  rw [← hmb]
  have hcm : cb < mb ∧ eb < mb := by have := hA.lt; have := hB.lt; omega
  clear hA hB F1 hM hA2 hB2 F2
  rintro w2 ⟨hA, hB⟩ hM F1
  refine wl (ro_build rfl bld_152_0_2) ?_
  refine wle (eo_box rfl rfl) ?_
  have hN := Blk.new w2 [S s, i64c 0, .map (some mb)] 152
  have hA2 := hA.alloc (.cells [S s, i64c 0, .map (some mb)].toArray 152)
  have hB2 := hB.alloc (.cells [S s, i64c 0, .map (some mb)].toArray 152)
  have hM2 := hM.fram (Fram.alloc none' w2 (.cells [S s, i64c 0, .map (some mb)].toArray 152)) (fun h => h)
  have F2 := F1.thenAlloc (o := .cells [S s, i64c 0, .map (some mb)].toArray 152)
  obtain ⟨rb, hrb⟩ : ∃ rb, rb = w2.heap.size := ⟨_, rfl⟩
  refine gen3 (A := fun w3 => Blk w3.heap cb [.pointer none] 104 ∧ Blk w3.heap eb [.nilIface] 106) (B := fun w3 => RD w3.heap w2.heap.size mb s 0 []) (D := fun w3 => Fram none' w w3) (C := fun w3 => WL _ _ _ _ _ w3) ⟨hA2, hB2⟩ ⟨hN, hM2⟩ F2 ?_
  rw [← hrb]
  have hcr2 : cb < rb ∧ eb < rb := by have := hA.lt; have := hB.lt; omega
  have hwm : w.heap.size ≤ mb ∧ w.heap.size ≤ rb := by omega
  clear hA hB F1 hM hA2 hB2 F2 hM2 hN
  rintro w3 ⟨hA, hB⟩ hRD F1
  have hRFn : ∀ k, RF rb mb k → k ≠ cb ∧ k ≠ eb ∧ w.heap.size ≤ k := by
    intro k hk
    rcases hk with hk | hk <;> omega
  have hN0 : ∀ pv w9, (readS s query = none ∧ EPan rb mb w3 pv w9) → ∀ e' : Nat → Option Value, evO 21 e' (.tmp 4) = some (ptr cb) → evO 21 e' (.tmp 5) = some (ptr eb) → BPd Tryz.prog Tryz.f51 (ParsePost s query w) (.panic [{ v := pv, recovered := false }]) (Fr 21 e' [dfr]) w9 := by
    rintro pv w9 ⟨hr, b, rfl, hF⟩ e' h4 h5
    refine hpan e' w9 b _ _ h4 h5 (hA.fram hF (fun h => (hRFn _ h).1 rfl)) (hB.fram hF (fun h => (hRFn _ h).2.1 rfl)) (F1.trans' hF (fun k hk hx => by have := (hRFn _ hx).2.2; omega)) ?_
    rw [hcr, hr]; rfl
  refine wl (ro_assign rfl) ?_
  refine wl_nil (x_then (hK3 _ _ ?_))
  clear hK3 K3
  refine forget [(1, _), (4, _), (5, _), (6, _)] ⟨rfl, rfl, rfl, rfl, trivial⟩ (fun e => ?_)
  refine c_seq (fun K4 hK4 => ?_)
  refine c_reg ?_ -- region 3 reader.go:39
  refine wl (ro_move rfl) ?_
  refine wl (ro_move rfl) ?_
  refine wl_callP rfl en_90 (read90 (by omega) hRD query) (fun pv w9 hE => hN0 pv w9 hE _ rfl rfl) ?_
  rintro _ w4 ⟨clb, rtb, VA, ks, B, rfl, hcl, hclf, hK, hrs, htx, hne, hkl, F4⟩
  have hA4 := hA.fram F4 (fun h => (hRFn _ h).1 rfl)
  have hB4 := hB.fram F4 (fun h => (hRFn _ h).2.1 rfl)
  have F04 := F1.trans' F4 (fun k hk hx => by have := (hRFn _ hx).2.2; omega)
  have hsz3 := F1.size
  have hclt := hcl.lt
  have hAl := hA.lt
  have hBl := hB.lt
  rw [hrs, Option.bind_some] at hcr
  simp only at hcr
  refine wls (so_storeB rfl rfl rfl sz_104 (hA4) (by simp)) ?_
  have F5 : Fram (fun k => k = cb) w4 (w4.setRow cb [ptr clb].toArray) := Fram.set w4 cb _ (.inl rfl)
  have hA5 := hA4.set [ptr clb]
  have hB5 := hB4.fram F5 (by omega)
  have hcl5 := hcl.fram F5 (by omega)
  have hZ5 := hK.keep F5 (fun b hb => by omega)
  refine gen3 (A := fun w5 => Blk w5.heap cb [ptr clb] 104 ∧ Blk w5.heap eb [.nilIface] 106) (B := fun w5 => Blk w5.heap clb [ptr rtb] 174 ∧ KS w3 w5 (s.length + 1) rtb (rootF query) VA ks B) (D := fun w5 => Fram none' w w5) (C := fun w5 => WL _ _ _ _ _ w5) ⟨hA5, hB5⟩ ⟨hcl5, hZ5⟩ (F04.trans' F5 (fun k hk hx => absurd hx (by omega))) ?_
  clear F5 hA5 hB5 hcl5 hZ5 hA4 hB4 hcl hK F04 F4
  rintro w5 ⟨hA5, hB5⟩ ⟨hcl5, hZ5⟩ F05
  refine wl_nil (x_then (hK4 _ _ ?_))
  clear hK4 K4
  refine forget [(4, _), (5, _)] ⟨rfl, rfl, trivial⟩ (fun e => ?_)
  refine c_seq (fun K5 hK5 => ?_)
  obtain ⟨code, hcode⟩ : ∃ code, code = rootF query :: UInt8.ofNat (48 + ks.length) :: ks.flatMap (·.2.code) := ⟨_, rfl⟩
  rw [← hcode] at hcr
  have hne' : query = false → ks ≠ [] := by intro hx; obtain ⟨cb', i', ks', hh⟩ := hne hx; rw [hh]; simp
  have hvt := vet91 hcl5 hZ5.cal hne' (by omega)
  have hsz5 := F05.size
  have hCB0 : ∀ b ∈ clb :: B, w3.heap.size ≤ b := by
    intro b hb
    rcases List.mem_cons.1 hb with h | h
    · omega
    · exact hZ5.fr b h
  by_cases hcond : ngoals query ks.length ≤ 3 ∧ maxM (ks.map (·.2)) ≤ 6
  · skip
    rw [if_pos hcond] at hcr
    have hng : ks.length ≤ 4 := by have := hcond.1; unfold ngoals at this; split at this <;> omega
    have hCl : ClAt w5.heap clb query s code (clb :: B) := ⟨rtb, VA, ks, B, hcl5, hZ5.cal.mono (fun v i h => h.mono (by omega)), hcode, htx, hne, hng, hcond.2, rfl⟩
    have hva : Ret Tryz.prog 91 [ptr clb] w5 (fun r w' => r = .nilIface ∧ Fram none' w5 w') := hvt.mono (by rintro r w' ⟨h1, h2⟩; unfold VetR at h1; rw [if_pos hcond] at h1; exact ⟨h1, h2⟩)
    refine c_reg ?_ -- region 4 reader.go:40
    refine wl (ro_loadB rfl sc_104 (hA5) rfl) ?_
    refine wl_call rfl en_91 (hva) ?_
    rintro _ w6 ⟨rfl, F6⟩
    have hA6 := hA5.fram F6 (fun h => h)
    have hB6 := hB5.fram F6 (fun h => h)
    have hCl6 := hCl.fram F6 (fun _ _ h => h)
    have F06 := F05.trans F6
    refine wls (so_storeB rfl rfl rfl sz_106 (hB6) (by simp)) ?_
    have F7 : Fram (fun k => k = eb) w6 (w6.setRow eb [.nilIface].toArray) := Fram.set w6 eb _ (.inl rfl)
    have hB7 := hB6.set [.nilIface]
    have hA7 := hA6.fram F7 (by omega)
    have hCl7 := hCl6.fram F7 (fun b hb hx => by have := hCB0 b hb; omega)
    refine gen3 (A := fun w7 => Blk w7.heap cb [ptr clb] 104 ∧ Blk w7.heap eb [.nilIface] 106) (B := fun w7 => ClAt w7.heap clb query s code (clb :: B)) (D := fun w7 => Fram none' w w7) (C := fun w7 => WL _ _ _ _ _ w7) ⟨hA7, hB7⟩ hCl7 (F06.trans' F7 (fun k hk hx => absurd hx (by omega))) ?_
    clear F7 hB7 hA7 hCl7 hA6 hB6 hCl6 F06 F6
    rintro w7 ⟨hA7, hB7⟩ hCl7 F07
    refine wl_nil (x_then (hK5 _ _ ?_))
    clear hK5 K5
    refine c_seq (fun K6 hK6 => ?_)
    refine c_seq (fun K7 hK7 => ?_)
    refine c_reg ?_ -- region 5 reader.go:41
    refine wl (ro_loadB rfl sc_106 (hB7) rfl) ?_
    refine wl (ro_neqNilN rfl if_106) ?_
    refine wl_nil (x_then (hK7 _ _ ?_))
    clear hK7 K7
    refine wc_condF rfl ?_
    refine c_skip (x_then (hK6 _ _ ?_))
    clear hK6 K6
    refine forget [(4, _), (5, _)] ⟨rfl, rfl, trivial⟩ (fun e => ?_)
    refine c_seq (fun K8 hK8 => ?_)
    have hB7' : Blk (World.setRow { w7 with drawn := w7.drawn + 1 } cb [ptr clb].toArray).heap eb [.nilIface] 106 := Blk.fram (w := { w7 with drawn := w7.drawn + 1 }) hB7 (Fram.set (F := fun k => k = cb) { w7 with drawn := w7.drawn + 1 } cb _ (.inl rfl)) (fun hx => hce (Eq.symm hx))
    have hA7' : Blk (World.setRow { w7 with drawn := w7.drawn + 1 } cb [ptr clb].toArray).heap cb [ptr clb] 104 := hA7.set [ptr clb]
    have hBF := hB7'.set [.nilIface]
    have hAF : Blk (World.setRow (World.setRow { w7 with drawn := w7.drawn + 1 } cb [ptr clb].toArray) eb [.nilIface].toArray).heap cb [ptr clb] 104 := hA7'.fram (Fram.set (F := fun k => k = eb) _ eb _ (.inl rfl)) (fun hx => hce hx)
    have FF : Fram (fun k => k = cb ∨ k = eb) w7 (World.setRow (World.setRow { w7 with drawn := w7.drawn + 1 } cb [ptr clb].toArray) eb [.nilIface].toArray) := ((Fram.drew _ w7 (w7.drawn + 1)).trans (Fram.set (F := fun k => k = cb ∨ k = eb) _ cb _ (.inl (.inl rfl)))).trans (Fram.set (F := fun k => k = cb ∨ k = eb) _ eb _ (.inl (.inr rfl)))
    have F0F : Fram none' w _ := F07.trans' FF (fun k hk hx => absurd hx (by omega))
    refine c_np ?_
    refine c_piL 3 [(0, false), (1, false), (2, true)] (fun w' => Blk w'.heap cb [ptr clb] 104 ∧ Blk w'.heap eb [.nilIface] 106) mixed (by kernel_rfl) rfl (by kernel_rfl) (po_np) (⟨hA7, hB7⟩) ?_ -- region 7 reader.go:44
    refine ql_ro rfl (fun w hS => ro_loadB rfl sc_104 (hS.1) rfl) ?_
    refine ql_ro rfl (fun w hS => ro_loadB rfl sc_106 (hS.2) rfl) ?_
    refine ql_so rfl (so_storeB rfl rfl rfl sz_104 hA7 (by simp)) ⟨hA7', hB7'⟩ ?_
    skip
    refine ql_last rfl (so_storeB rfl rfl rfl sz_106 (hB7') (by simp)) ?_
    skip
    refine np_n ?_
    refine x_then (hK8 _ _ ?_)
    clear hK8 K8
    refine c_ret ?_
    refine hidle _ _ _ _ rfl rfl hAF hBF ⟨F0F, .inl ⟨code, clb, clb :: B, hcr, rfl, ?_, ?_⟩⟩
    · exact hCl7.fram FF (fun b hb hx => by have := hCB0 b hb; omega)
    · intro b hb
      have := hCB0 b hb
      omega
  · skip
    rw [if_neg hcond] at hcr
    have hvb : Ret Tryz.prog 91 [ptr clb] w5 (fun r w' => (∃ b, r = .iface 147 (ptr b)) ∧ Fram none' w5 w') := hvt.mono (by rintro r w' ⟨h1, h2⟩; unfold VetR at h1; rw [if_neg hcond] at h1; exact ⟨h1, h2⟩)
    refine c_reg ?_ -- region 4 reader.go:40
    refine wl (ro_loadB rfl sc_104 (hA5) rfl) ?_
    refine wl_call rfl en_91 (hvb) ?_
    rintro _ w6 ⟨⟨eb1, rfl⟩, F6⟩
    have hA6 := hA5.fram F6 (fun h => h)
    have hB6 := hB5.fram F6 (fun h => h)
    have F06 := F05.trans F6
    refine wls (so_storeB rfl rfl rfl sz_106 (hB6) (by simp)) ?_
    have F7 : Fram (fun k => k = eb) w6 (w6.setRow eb [.iface 147 (ptr eb1)].toArray) := Fram.set w6 eb _ (.inl rfl)
    have hB7 := hB6.set [.iface 147 (ptr eb1)]
    have hA7 := hA6.fram F7 (by omega)
    refine gen2 (A := fun w7 => Blk w7.heap cb [ptr clb] 104 ∧ Blk w7.heap eb [.iface 147 (ptr eb1)] 106) (B := fun w7 => Fram none' w w7) (C := fun w7 => WL _ _ _ _ _ w7) ⟨hA7, hB7⟩ (F06.trans' F7 (fun k hk hx => absurd hx (by omega))) ?_
    clear F7 hB7 hA7 hA6 hB6 F06 F6
    rintro w7 ⟨hA7, hB7⟩ F07
    refine wl_nil (x_then (hK5 _ _ ?_))
    clear hK5 K5
    refine c_seq (fun K9 hK9 => ?_)
    refine c_seq (fun K10 hK10 => ?_)
    refine c_reg ?_ -- region 5 reader.go:41
    refine wl (ro_loadB rfl sc_106 (hB7) rfl) ?_
    refine wl (ro_neqNilI rfl if_106) ?_
    refine wl_nil (x_then (hK10 _ _ ?_))
    clear hK10 K10
    refine wc_condT rfl ?_
    refine c_reg ?_ -- region 6 reader.go:42
    refine wls (so_storeB rfl rfl rfl sz_104 (hA7) (by simp)) ?_
    have F8 : Fram (fun k => k = cb) w7 (w7.setRow cb [.pointer none].toArray) := Fram.set w7 cb _ (.inl rfl)
    have hA8 := hA7.set [.pointer none]
    have hB8 := hB7.fram F8 (by omega)
    refine gen2 (A := fun w7 => Blk w7.heap cb [.pointer none] 104 ∧ Blk w7.heap eb [.iface 147 (ptr eb1)] 106) (B := fun w7 => Fram none' w w7) (C := fun w7 => WL _ _ _ _ _ w7) ⟨hA8, hB8⟩ (F07.trans' F8 (fun k hk hx => absurd hx (by omega))) ?_
    clear F8 hA8 hB8 hA7 hB7 F07
    rintro w7 ⟨hA7, hB7⟩ F07
    refine wl_nil (x_then (hK9 _ _ ?_))
    clear hK9 K9
    refine forget [(4, _), (5, _)] ⟨rfl, rfl, trivial⟩ (fun e => ?_)
    refine c_seq (fun K11 hK11 => ?_)
    have hB7' : Blk (World.setRow { w7 with drawn := w7.drawn + 1 } cb [.pointer none].toArray).heap eb [.iface 147 (ptr eb1)] 106 := Blk.fram (w := { w7 with drawn := w7.drawn + 1 }) hB7 (Fram.set (F := fun k => k = cb) { w7 with drawn := w7.drawn + 1 } cb _ (.inl rfl)) (fun hx => hce (Eq.symm hx))
    have hA7' : Blk (World.setRow { w7 with drawn := w7.drawn + 1 } cb [.pointer none].toArray).heap cb [.pointer none] 104 := hA7.set [.pointer none]
    have hBF := hB7'.set [.iface 147 (ptr eb1)]
    have hAF : Blk (World.setRow (World.setRow { w7 with drawn := w7.drawn + 1 } cb [.pointer none].toArray) eb [.iface 147 (ptr eb1)].toArray).heap cb [.pointer none] 104 := hA7'.fram (Fram.set (F := fun k => k = eb) _ eb _ (.inl rfl)) (fun hx => hce hx)
    have FF : Fram (fun k => k = cb ∨ k = eb) w7 (World.setRow (World.setRow { w7 with drawn := w7.drawn + 1 } cb [.pointer none].toArray) eb [.iface 147 (ptr eb1)].toArray) := ((Fram.drew _ w7 (w7.drawn + 1)).trans (Fram.set (F := fun k => k = cb ∨ k = eb) _ cb _ (.inl (.inl rfl)))).trans (Fram.set (F := fun k => k = cb ∨ k = eb) _ eb _ (.inl (.inr rfl)))
    have F0F : Fram none' w _ := F07.trans' FF (fun k hk hx => absurd hx (by omega))
    refine c_np ?_
    refine c_piL 3 [(0, false), (1, false), (2, true)] (fun w' => Blk w'.heap cb [.pointer none] 104 ∧ Blk w'.heap eb [.iface 147 (ptr eb1)] 106) mixed (by kernel_rfl) rfl (by kernel_rfl) (po_np) (⟨hA7, hB7⟩) ?_ -- region 7 reader.go:44
    refine ql_ro rfl (fun w hS => ro_loadB rfl sc_104 (hS.1) rfl) ?_
    refine ql_ro rfl (fun w hS => ro_loadB rfl sc_106 (hS.2) rfl) ?_
    refine ql_so rfl (so_storeB rfl rfl rfl sz_104 hA7 (by simp)) ⟨hA7', hB7'⟩ ?_
    skip
    refine ql_last rfl (so_storeB rfl rfl rfl sz_106 (hB7') (by simp)) ?_
    skip
    refine np_n ?_
    refine x_then (hK11 _ _ ?_)
    clear hK11 K11
    refine c_ret ?_
    exact hidle _ _ _ _ rfl rfl hAF hBF ⟨F0F, .inr ⟨hcr, eb1, rfl⟩⟩

end Go.Proofs.Qxb6500569aGreat
