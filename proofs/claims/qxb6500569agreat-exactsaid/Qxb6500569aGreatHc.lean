import Derived.Test.Qxb6500569aGreatHb
/- The real heap: what a store turns. -/
namespace Go.Proofs.Qxb6500569aGreat
set_option linter.unusedVariables false
set_option linter.unusedSimpArgs false

theorem gen2 {A B C : World → Prop} {w : World} (ha : A w) (hb : B w) (h : ∀ w, A w → B w → C w) : C w := h w ha hb
theorem gen3 {A B D C : World → Prop} {w : World} (ha : A w) (hb : B w) (hd : D w) (h : ∀ w, A w → B w → D w → C w) : C w := h w ha hb hd

theorem HL.foot_h (L : HL) : L.foot L.h := by simp [HL.foot, HL.list]
theorem HL.foot_t (L : HL) : L.foot L.t := by simp [HL.foot, HL.list]
theorem HL.foot_w (L : HL) : L.foot L.w := by simp [HL.foot, HL.list]
theorem HL.foot_hd (L : HL) : L.foot L.hd := by simp [HL.foot, HL.list]
theorem HL.foot_a (L : HL) : L.foot L.a := by simp [HL.foot, HL.list]
theorem HL.foot_tr (L : HL) : L.foot L.tr := by simp [HL.foot, HL.list]
theorem HL.foot_m (L : HL) : L.foot L.m := by simp [HL.foot, HL.list]

variable {w : World} {L : HL} {R : RH}

theorem HeapAt.upWord (H : HeapAt w.heap L R) {cs : Array Value} {ws : List Nat} (hA : Arr (w.setRow L.w cs).heap L.w (ws.map i32c) 64 21) (hl : ws.length = R.word.length) : HeapAt (w.setRow L.w cs).heap L { R with word := ws } := by
  obtain ⟨⟨a1, a2, a3, a4, a5, a6⟩, ⟨b1, b2, b3, b4, b5⟩, ⟨c1, c2, c3, c4⟩, ⟨d1, d2, d3⟩, ⟨e1, e2⟩, f1⟩ := H.ne
  exact ⟨by have := H.st.set_ne cs a2; rw [← hl] at this; exact this, H.tags.set_ne cs b1, hA, H.heads.set_ne cs (Ne.symm c1), H.args.set_ne cs (Ne.symm c2), H.trail.set_ne cs (Ne.symm c3), H.marks.set_ne cs (Ne.symm c4), H.nd⟩

theorem HeapAt.upTags (H : HeapAt w.heap L R) {cs : Array Value} {ts : List Nat} (hA : Arr (w.setRow L.t cs).heap L.t (ts.map i8c) 64 177) (hl : ts.length = R.tags.length) : HeapAt (w.setRow L.t cs).heap L { R with tags := ts } := by
  obtain ⟨⟨a1, a2, a3, a4, a5, a6⟩, ⟨b1, b2, b3, b4, b5⟩, ⟨c1, c2, c3, c4⟩, ⟨d1, d2, d3⟩, ⟨e1, e2⟩, f1⟩ := H.ne
  exact ⟨by have := H.st.set_ne cs a1; rw [← hl] at this; exact this, hA, H.word.set_ne cs (Ne.symm b1), H.heads.set_ne cs (Ne.symm b2), H.args.set_ne cs (Ne.symm b3), H.trail.set_ne cs (Ne.symm b4), H.marks.set_ne cs (Ne.symm b5), H.nd⟩

theorem HeapAt.upArgs (H : HeapAt w.heap L R) {cs : Array Value} {ts : List Nat} (hA : Arr (w.setRow L.a cs).heap L.a (ts.map i32c) 256 21) (hl : ts.length = R.args.length) : HeapAt (w.setRow L.a cs).heap L { R with args := ts } := by
  obtain ⟨⟨a1, a2, a3, a4, a5, a6⟩, ⟨b1, b2, b3, b4, b5⟩, ⟨c1, c2, c3, c4⟩, ⟨d1, d2, d3⟩, ⟨e1, e2⟩, f1⟩ := H.ne
  exact ⟨by have := H.st.set_ne cs a4; rw [← hl] at this; exact this, H.tags.set_ne cs b3, H.word.set_ne cs c2, H.heads.set_ne cs d1, hA, H.trail.set_ne cs (Ne.symm e1), H.marks.set_ne cs (Ne.symm e2), H.nd⟩

/-- The whole store under new headers. -/
theorem HeapAt.hdr (H : HeapAt w.heap L R) (R' : RH) {cs : List Value}
    (hcs : cs = [sl L.t R'.tags.length 64, sl L.w R'.word.length 64, sl L.hd R'.heads.length 128, sl L.a R'.args.length 256, sl L.tr R'.trail.length 64, sl L.m R'.marks.length 26])
    (h1 : Arr w.heap L.t (R'.tags.map i8c) 64 177) (h2 : Arr w.heap L.w (R'.word.map i32c) 64 21) (h3 : Arr w.heap L.hd (R'.heads.map u8c) 128 5) (h4 : Arr w.heap L.a (R'.args.map i32c) 256 21) (h5 : Arr w.heap L.tr (R'.trail.map i32c) 64 21) (h6 : Arr w.heap L.m (R'.marks.flatMap mkc) 78 198) :
    HeapAt (w.setRow L.h cs.toArray).heap L R' := by
  obtain ⟨⟨a1, a2, a3, a4, a5, a6⟩, _⟩ := H.ne
  have hst := H.st.set cs
  subst hcs
  exact ⟨hst, h1.set_ne _ (Ne.symm a1), h2.set_ne _ (Ne.symm a2), h3.set_ne _ (Ne.symm a3), h4.set_ne _ (Ne.symm a4), h5.set_ne _ (Ne.symm a5), h6.set_ne _ (Ne.symm a6), H.nd⟩

theorem HeapAt.alloc (H : HeapAt w.heap L R) (o : Obj) : HeapAt (w.alloc o).heap L R :=
  ⟨H.st.alloc o, H.tags.alloc o, H.word.alloc o, H.heads.alloc o, H.args.alloc o, H.trail.alloc o, H.marks.alloc o, H.nd⟩

/-- A row whose head grows by 'ns', in place. -/
theorem arr_grow {b cap q r : Nat} {t : TypeId} {cs ns j : List Value} (hB : Blk w.heap b (cs ++ j) t) (hj : cs.length + j.length = cap) (hq : q = cs.length) (hr : r = ns.length) (hfit : cs.length + ns.length ≤ cap) :
    Arr (w.setRow b ((cs ++ j).take q ++ ns ++ (cs ++ j).drop (q + r)).toArray).heap b (cs ++ ns) cap t := by
  subst hq hr
  refine ⟨j.drop ns.length, ?_, by simp; omega⟩
  have := hB.set ((cs ++ j).take cs.length ++ ns ++ (cs ++ j).drop (cs.length + ns.length))
  have e1 : (cs ++ j).take cs.length = cs := by simp
  have e2 : (cs ++ j).drop (cs.length + ns.length) = j.drop ns.length := by rw [← List.drop_drop]; simp
  rw [e1, e2] at this ⊢
  exact this

theorem marks_len (ms : List (Nat × Nat × Nat)) : (ms.flatMap mkc).length = 3 * ms.length := by
  induction ms with
  | nil => rfl
  | cons m ms ih => simp [mkc, ih]; omega

theorem marks_take {H : Array Obj} {b cap : Nat} {t : TypeId} {ms : List (Nat × Nat × Nat)} {k : Nat} (h : Arr H b (ms.flatMap mkc) cap t) : Arr H b ((ms.take k).flatMap mkc) cap t := by
  obtain ⟨j, hB, hj⟩ := h
  refine ⟨(ms.drop k).flatMap mkc ++ j, ?_, ?_⟩
  · rw [← List.append_assoc, ← List.flatMap_append, List.take_append_drop]; exact hB
  · have e := congrArg (fun l : List (Nat × Nat × Nat) => (l.flatMap mkc).length) (List.take_append_drop k ms)
    simp only [List.flatMap_append, List.length_append] at e
    simp only [List.length_append]
    omega

theorem Arr.blk0 {H : Array Obj} {b cap : Nat} {t : TypeId} {xs : List Value} (h : Arr H b xs cap t) : ∃ l, Blk H b l t ∧ l.length = cap := by
  obtain ⟨j, hB, hj⟩ := h; exact ⟨_, hB, by simpa using hj⟩

/-- 'tags' appended to, in place, and its header stored. -/
theorem HeapAt.push_tags (H : HeapAt w.heap L R) {j ns : List Value} {xs : List Nat} {q r m : Nat} (hB : Blk w.heap L.t (R.tags.map i8c ++ j) 177) (hj : (R.tags.map i8c).length + j.length = 64) (hns : ns = xs.map i8c) (hq : q = R.tags.length) (hr : r = xs.length) (hm : m = R.tags.length + xs.length) (hfit : R.tags.length + xs.length ≤ 64) :
    HeapAt ((w.setRow L.t ((R.tags.map i8c ++ j).take q ++ ns ++ (R.tags.map i8c ++ j).drop (q + r)).toArray).setRow L.h ([sl L.t R.tags.length 64, sl L.w R.word.length 64, sl L.hd R.heads.length 128, sl L.a R.args.length 256, sl L.tr R.trail.length 64, sl L.m R.marks.length 26].set 0 (sl L.t m 64)).toArray).heap L { R with tags := R.tags ++ xs } := by
  obtain ⟨⟨a1, a2, a3, a4, a5, a6⟩, ⟨b1, b2, b3, b4, b5⟩, ⟨c1, c2, c3, c4⟩, ⟨d1, d2, d3⟩, ⟨e1, e2⟩, f1⟩ := H.ne
  subst hns hq hr hm
  have hG := arr_grow (ns := xs.map i8c) hB hj (q := R.tags.length) (r := xs.length) (by simp) (by simp) (by simpa using hfit)
  rw [← List.map_append] at hG
  have hst := (H.st.set_ne ((R.tags.map i8c ++ j).take R.tags.length ++ xs.map i8c ++ (R.tags.map i8c ++ j).drop (R.tags.length + xs.length)).toArray a1).set ([sl L.t R.tags.length 64, sl L.w R.word.length 64, sl L.hd R.heads.length 128, sl L.a R.args.length 256, sl L.tr R.trail.length 64, sl L.m R.marks.length 26].set 0 (sl L.t (R.tags.length + xs.length) 64))
  rw [← List.length_append] at hst hG ⊢
  exact ⟨hst, hG.set_ne _ (Ne.symm a1), (H.word.set_ne _ (Ne.symm b1)).set_ne _ (Ne.symm a2), (H.heads.set_ne _ (Ne.symm b2)).set_ne _ (Ne.symm a3), (H.args.set_ne _ (Ne.symm b3)).set_ne _ (Ne.symm a4), (H.trail.set_ne _ (Ne.symm b4)).set_ne _ (Ne.symm a5), (H.marks.set_ne _ (Ne.symm b5)).set_ne _ (Ne.symm a6), H.nd⟩

/-- 'word' appended to, in place, and its header stored. -/
theorem HeapAt.push_word (H : HeapAt w.heap L R) {j ns : List Value} {xs : List Nat} {q r m : Nat} (hB : Blk w.heap L.w (R.word.map i32c ++ j) 21) (hj : (R.word.map i32c).length + j.length = 64) (hns : ns = xs.map i32c) (hq : q = R.word.length) (hr : r = xs.length) (hm : m = R.word.length + xs.length) (hfit : R.word.length + xs.length ≤ 64) :
    HeapAt ((w.setRow L.w ((R.word.map i32c ++ j).take q ++ ns ++ (R.word.map i32c ++ j).drop (q + r)).toArray).setRow L.h ([sl L.t R.tags.length 64, sl L.w R.word.length 64, sl L.hd R.heads.length 128, sl L.a R.args.length 256, sl L.tr R.trail.length 64, sl L.m R.marks.length 26].set 1 (sl L.w m 64)).toArray).heap L { R with word := R.word ++ xs } := by
  obtain ⟨⟨a1, a2, a3, a4, a5, a6⟩, ⟨b1, b2, b3, b4, b5⟩, ⟨c1, c2, c3, c4⟩, ⟨d1, d2, d3⟩, ⟨e1, e2⟩, f1⟩ := H.ne
  subst hns hq hr hm
  have hG := arr_grow (ns := xs.map i32c) hB hj (q := R.word.length) (r := xs.length) (by simp) (by simp) (by simpa using hfit)
  rw [← List.map_append] at hG
  have hst := (H.st.set_ne ((R.word.map i32c ++ j).take R.word.length ++ xs.map i32c ++ (R.word.map i32c ++ j).drop (R.word.length + xs.length)).toArray a2).set ([sl L.t R.tags.length 64, sl L.w R.word.length 64, sl L.hd R.heads.length 128, sl L.a R.args.length 256, sl L.tr R.trail.length 64, sl L.m R.marks.length 26].set 1 (sl L.w (R.word.length + xs.length) 64))
  rw [← List.length_append] at hst hG ⊢
  exact ⟨hst, (H.tags.set_ne _ b1).set_ne _ (Ne.symm a1), hG.set_ne _ (Ne.symm a2), (H.heads.set_ne _ (Ne.symm c1)).set_ne _ (Ne.symm a3), (H.args.set_ne _ (Ne.symm c2)).set_ne _ (Ne.symm a4), (H.trail.set_ne _ (Ne.symm c3)).set_ne _ (Ne.symm a5), (H.marks.set_ne _ (Ne.symm c4)).set_ne _ (Ne.symm a6), H.nd⟩

/-- 'heads' appended to, in place, and its header stored. -/
theorem HeapAt.push_heads (H : HeapAt w.heap L R) {j ns : List Value} {xs : List UInt8} {q r m : Nat} (hB : Blk w.heap L.hd (R.heads.map u8c ++ j) 5) (hj : (R.heads.map u8c).length + j.length = 128) (hns : ns = xs.map u8c) (hq : q = R.heads.length) (hr : r = xs.length) (hm : m = R.heads.length + xs.length) (hfit : R.heads.length + xs.length ≤ 128) :
    HeapAt ((w.setRow L.hd ((R.heads.map u8c ++ j).take q ++ ns ++ (R.heads.map u8c ++ j).drop (q + r)).toArray).setRow L.h ([sl L.t R.tags.length 64, sl L.w R.word.length 64, sl L.hd R.heads.length 128, sl L.a R.args.length 256, sl L.tr R.trail.length 64, sl L.m R.marks.length 26].set 2 (sl L.hd m 128)).toArray).heap L { R with heads := R.heads ++ xs } := by
  obtain ⟨⟨a1, a2, a3, a4, a5, a6⟩, ⟨b1, b2, b3, b4, b5⟩, ⟨c1, c2, c3, c4⟩, ⟨d1, d2, d3⟩, ⟨e1, e2⟩, f1⟩ := H.ne
  subst hns hq hr hm
  have hG := arr_grow (ns := xs.map u8c) hB hj (q := R.heads.length) (r := xs.length) (by simp) (by simp) (by simpa using hfit)
  rw [← List.map_append] at hG
  have hst := (H.st.set_ne ((R.heads.map u8c ++ j).take R.heads.length ++ xs.map u8c ++ (R.heads.map u8c ++ j).drop (R.heads.length + xs.length)).toArray a3).set ([sl L.t R.tags.length 64, sl L.w R.word.length 64, sl L.hd R.heads.length 128, sl L.a R.args.length 256, sl L.tr R.trail.length 64, sl L.m R.marks.length 26].set 2 (sl L.hd (R.heads.length + xs.length) 128))
  rw [← List.length_append] at hst hG ⊢
  exact ⟨hst, (H.tags.set_ne _ b2).set_ne _ (Ne.symm a1), (H.word.set_ne _ c1).set_ne _ (Ne.symm a2), hG.set_ne _ (Ne.symm a3), (H.args.set_ne _ (Ne.symm d1)).set_ne _ (Ne.symm a4), (H.trail.set_ne _ (Ne.symm d2)).set_ne _ (Ne.symm a5), (H.marks.set_ne _ (Ne.symm d3)).set_ne _ (Ne.symm a6), H.nd⟩

/-- 'args' appended to, in place, and its header stored. -/
theorem HeapAt.push_args (H : HeapAt w.heap L R) {j ns : List Value} {xs : List Nat} {q r m : Nat} (hB : Blk w.heap L.a (R.args.map i32c ++ j) 21) (hj : (R.args.map i32c).length + j.length = 256) (hns : ns = xs.map i32c) (hq : q = R.args.length) (hr : r = xs.length) (hm : m = R.args.length + xs.length) (hfit : R.args.length + xs.length ≤ 256) :
    HeapAt ((w.setRow L.a ((R.args.map i32c ++ j).take q ++ ns ++ (R.args.map i32c ++ j).drop (q + r)).toArray).setRow L.h ([sl L.t R.tags.length 64, sl L.w R.word.length 64, sl L.hd R.heads.length 128, sl L.a R.args.length 256, sl L.tr R.trail.length 64, sl L.m R.marks.length 26].set 3 (sl L.a m 256)).toArray).heap L { R with args := R.args ++ xs } := by
  obtain ⟨⟨a1, a2, a3, a4, a5, a6⟩, ⟨b1, b2, b3, b4, b5⟩, ⟨c1, c2, c3, c4⟩, ⟨d1, d2, d3⟩, ⟨e1, e2⟩, f1⟩ := H.ne
  subst hns hq hr hm
  have hG := arr_grow (ns := xs.map i32c) hB hj (q := R.args.length) (r := xs.length) (by simp) (by simp) (by simpa using hfit)
  rw [← List.map_append] at hG
  have hst := (H.st.set_ne ((R.args.map i32c ++ j).take R.args.length ++ xs.map i32c ++ (R.args.map i32c ++ j).drop (R.args.length + xs.length)).toArray a4).set ([sl L.t R.tags.length 64, sl L.w R.word.length 64, sl L.hd R.heads.length 128, sl L.a R.args.length 256, sl L.tr R.trail.length 64, sl L.m R.marks.length 26].set 3 (sl L.a (R.args.length + xs.length) 256))
  rw [← List.length_append] at hst hG ⊢
  exact ⟨hst, (H.tags.set_ne _ b3).set_ne _ (Ne.symm a1), (H.word.set_ne _ c2).set_ne _ (Ne.symm a2), (H.heads.set_ne _ d1).set_ne _ (Ne.symm a3), hG.set_ne _ (Ne.symm a4), (H.trail.set_ne _ (Ne.symm e1)).set_ne _ (Ne.symm a5), (H.marks.set_ne _ (Ne.symm e2)).set_ne _ (Ne.symm a6), H.nd⟩

/-- 'trail' appended to, in place, and its header stored. -/
theorem HeapAt.push_trail (H : HeapAt w.heap L R) {j ns : List Value} {xs : List Nat} {q r m : Nat} (hB : Blk w.heap L.tr (R.trail.map i32c ++ j) 21) (hj : (R.trail.map i32c).length + j.length = 64) (hns : ns = xs.map i32c) (hq : q = R.trail.length) (hr : r = xs.length) (hm : m = R.trail.length + xs.length) (hfit : R.trail.length + xs.length ≤ 64) :
    HeapAt ((w.setRow L.tr ((R.trail.map i32c ++ j).take q ++ ns ++ (R.trail.map i32c ++ j).drop (q + r)).toArray).setRow L.h ([sl L.t R.tags.length 64, sl L.w R.word.length 64, sl L.hd R.heads.length 128, sl L.a R.args.length 256, sl L.tr R.trail.length 64, sl L.m R.marks.length 26].set 4 (sl L.tr m 64)).toArray).heap L { R with trail := R.trail ++ xs } := by
  obtain ⟨⟨a1, a2, a3, a4, a5, a6⟩, ⟨b1, b2, b3, b4, b5⟩, ⟨c1, c2, c3, c4⟩, ⟨d1, d2, d3⟩, ⟨e1, e2⟩, f1⟩ := H.ne
  subst hns hq hr hm
  have hG := arr_grow (ns := xs.map i32c) hB hj (q := R.trail.length) (r := xs.length) (by simp) (by simp) (by simpa using hfit)
  rw [← List.map_append] at hG
  have hst := (H.st.set_ne ((R.trail.map i32c ++ j).take R.trail.length ++ xs.map i32c ++ (R.trail.map i32c ++ j).drop (R.trail.length + xs.length)).toArray a5).set ([sl L.t R.tags.length 64, sl L.w R.word.length 64, sl L.hd R.heads.length 128, sl L.a R.args.length 256, sl L.tr R.trail.length 64, sl L.m R.marks.length 26].set 4 (sl L.tr (R.trail.length + xs.length) 64))
  rw [← List.length_append] at hst hG ⊢
  exact ⟨hst, (H.tags.set_ne _ b4).set_ne _ (Ne.symm a1), (H.word.set_ne _ c3).set_ne _ (Ne.symm a2), (H.heads.set_ne _ d2).set_ne _ (Ne.symm a3), (H.args.set_ne _ e1).set_ne _ (Ne.symm a4), hG.set_ne _ (Ne.symm a5), (H.marks.set_ne _ (Ne.symm f1)).set_ne _ (Ne.symm a6), H.nd⟩

theorem HeapAt.push_marks (H : HeapAt w.heap L R) {j ns : List Value} {mk : Nat × Nat × Nat} {q r m : Nat} (hB : Blk w.heap L.m (R.marks.flatMap mkc ++ j) 198) (hj : (R.marks.flatMap mkc).length + j.length = 78) (hns : ns = mkc mk) (hq : q = 3 * R.marks.length) (hr : r = 3) (hm : m = R.marks.length + 1) (hfit : R.marks.length + 1 ≤ 26) :
    HeapAt ((w.setRow L.m ((R.marks.flatMap mkc ++ j).take q ++ ns ++ (R.marks.flatMap mkc ++ j).drop (q + r)).toArray).setRow L.h ([sl L.t R.tags.length 64, sl L.w R.word.length 64, sl L.hd R.heads.length 128, sl L.a R.args.length 256, sl L.tr R.trail.length 64, sl L.m R.marks.length 26].set 5 (sl L.m m 26)).toArray).heap L { R with marks := R.marks ++ [mk] } := by
  obtain ⟨⟨a1, a2, a3, a4, a5, a6⟩, ⟨b1, b2, b3, b4, b5⟩, ⟨c1, c2, c3, c4⟩, ⟨d1, d2, d3⟩, ⟨e1, e2⟩, f1⟩ := H.ne
  subst hns hq hr hm
  have hG := arr_grow (ns := mkc mk) hB hj (q := 3 * R.marks.length) (r := 3) (by rw [marks_len]) rfl (by rw [marks_len]; simp [mkc]; omega)
  have e : R.marks.flatMap mkc ++ mkc mk = (R.marks ++ [mk]).flatMap mkc := by simp
  rw [e] at hG
  have hst := (H.st.set_ne ((R.marks.flatMap mkc ++ j).take (3 * R.marks.length) ++ mkc mk ++ (R.marks.flatMap mkc ++ j).drop (3 * R.marks.length + 3)).toArray a6).set ([sl L.t R.tags.length 64, sl L.w R.word.length 64, sl L.hd R.heads.length 128, sl L.a R.args.length 256, sl L.tr R.trail.length 64, sl L.m R.marks.length 26].set 5 (sl L.m (R.marks.length + 1) 26))
  have e2' : R.marks.length + 1 = (R.marks ++ [mk]).length := by simp
  rw [e2'] at hst ⊢
  exact ⟨hst, (H.tags.set_ne _ b5).set_ne _ (Ne.symm a1), (H.word.set_ne _ c4).set_ne _ (Ne.symm a2), (H.heads.set_ne _ d3).set_ne _ (Ne.symm a3), (H.args.set_ne _ e2).set_ne _ (Ne.symm a4), (H.trail.set_ne _ f1).set_ne _ (Ne.symm a5), hG.set_ne _ (Ne.symm a6), H.nd⟩

end Go.Proofs.Qxb6500569aGreat
