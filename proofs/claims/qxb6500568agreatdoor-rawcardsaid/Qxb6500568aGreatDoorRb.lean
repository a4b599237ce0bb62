import Derived.Test.Qxb6500568aGreatDoorRa
namespace Go.Proofs.Qxb6500568aGreatDoor
open Ieee
set_option linter.unusedVariables false
set_option linter.unusedSimpArgs false
set_option linter.unusedSectionVars false

/-! A sound step keeps what a check asks. -/

section
variable {Ps : List Proto} {a : AS} {v : PV}

theorem BI.ite {c : Prop} [Decidable c] {x y : AS} (hx : c → BI Ps x) (hy : ¬ c → BI Ps y) : BI Ps (if c then x else y) := by
  by_cases h : c
  · rw [if_pos h]; exact hx h
  · rw [if_neg h]; exact hy h
theorem TS.down {cur : Nat} {stack : List Nat} {ths : List ATh} (T : TS cur stack ths) {t : ATh} {c : Nat} {r : List Nat} (hs : stack = c :: r) (h1 : t.st = 5 ∨ t.st = 2 ∧ t.frs ≠ []) : TS c r ((ths.set cur t).set c { thA ths c with st := 4 }) := by
  have hcs := T.sk c (by rw [hs]; exact List.mem_cons_self)
  have hnd := T.nd
  rw [hs] at hnd
  have hl : c < (ths.set cur t).length := by rw [List.length_set]; exact hcs.1
  have e : ∀ k, thA ((ths.set cur t).set c { thA ths c with st := 4 }) k = if k = c then { thA ths c with st := 4 } else if k = cur then t else thA ths k := fun k => by
    rw [thA_set hl, thA_set T.lt]
  have hlen : ((ths.set cur t).set c { thA ths c with st := 4 }).length = ths.length := by rw [List.length_set, List.length_set]
  have hcr : ∀ k ∈ r, k ≠ c := fun k hk e => (List.nodup_cons.1 (List.nodup_cons.1 hnd).2).1 (e ▸ hk)
  have hca : ∀ k ∈ r, k ≠ cur := fun k hk e => (List.nodup_cons.1 hnd).1 (e ▸ List.mem_cons_of_mem _ hk)
  refine ⟨by rw [hlen]; exact hcs.1, by rw [e, if_pos rfl], by rw [e, if_pos rfl]; exact hcs.2.2, fun k hk => ?_, (List.nodup_cons.1 hnd).2, ?_, fun k => ?_⟩
  · rw [hlen, e, if_neg (hcr k hk), if_neg (hca k hk)]
    exact T.sk k (by rw [hs]; exact List.mem_cons_of_mem _ hk)
  · have := T.bot
    rw [hs] at this
    rw [List.getLast?_cons_cons] at this
    exact this
  · rw [e]
    by_cases hk : k = c
    · rw [if_pos hk]; intro q; cases q
    · rw [if_neg hk]
      by_cases hk2 : k = cur
      · rw [if_pos hk2]
        intro q
        rcases h1 with h1 | h1
        · omega
        · exact h1.2
      · rw [if_neg hk2]; exact T.y k
theorem down_ths (T : TS a.cur a.stack a.ths) {t : ATh} {c : Nat} {r : List Nat} (hs : a.stack = c :: r) {b : AS} (hbt : b.ths = a.ths.set a.cur t) (hbc : b.cur = c) : (b.setT { b.th with st := 4 }).ths = (a.ths.set a.cur t).set c { thA a.ths c with st := 4 } := by
  have hnd := T.nd
  rw [hs] at hnd
  have hne : c ≠ a.cur := fun e => (List.nodup_cons.1 hnd).1 (e ▸ List.mem_cons_self)
  have hbth : b.th = thA a.ths c := by
    unfold AS.th
    rw [hbt, hbc]
    exact (thA_set T.lt c).trans (if_neg hne)
  show b.ths.set b.cur { b.th with st := 4 } = _
  rw [hbt, hbc, hbth]
theorem BT.dead {cl : List (Nat × List Nat)} {i : Nat} {t : ATh} (h : BT Ps cl i t) : BT Ps cl i { t with frs := [], st := 5 } :=
  ⟨⟨by dsimp only; decide, by dsimp only; decide⟩, h.fn, fun _ => rfl, fun q => by dsimp only at q; omega, fun _ => ⟨by dsimp only; decide, by dsimp only; decide⟩, fun f q => (by cases q), fun f q => (by cases q), fun f q => (by cases q), fun _ f q => (by cases q)⟩
theorem BI.die (h : BI Ps a) (hd : a.done = false) (T : TS a.cur a.stack a.ths) (b : Bool) (v : PV) : BI Ps (aback b v (a.setT { a.th with frs := [], st := 5 })) := by
  unfold aback
  rcases hs : (a.setT { a.th with frs := [], st := 5 }).stack with _ | ⟨c, r⟩
  · refine ⟨fun i u hu => ?_, fun i hi => ?_, ?_, fun _ _ => ?_⟩
    · have hu : (a.ths.set a.cur { a.th with frs := [], st := 5 })[i]? = some u := hu
      rw [List.getElem?_set] at hu
      by_cases hk : a.cur = i
      · rw [if_pos hk] at hu
        split at hu
        · injection hu with hu; rw [← hu, ← hk]; exact (h.cu T).dead
        · cases hu
      · rw [if_neg hk] at hu; exact h.t i u hu
    · have hi : (thA (a.ths.set a.cur { a.th with frs := [], st := 5 }) i).st = 4 := hi
      rw [thA_set T.lt] at hi
      by_cases hk : i = a.cur
      · exact hk
      · rw [if_neg hk] at hi; exact h.c4 i hi
    · have k1 := cntF_set (t := { a.th with frs := [], st := 5 }) T.lt
      have k3 := T.st
      have k4 := h.f
      rw [if_neg (by omega), if_neg (by show ¬ 5 = 1; decide)] at k1
      show a.first + cntF (a.ths.set a.cur { a.th with frs := [], st := 5 }) + 1 ≤ (a.ths.set a.cur { a.th with frs := [], st := 5 }).length
      rw [List.length_set]
      omega
    · show (thA (a.ths.set a.cur { a.th with frs := [], st := 5 }) a.cur).st = 5
      rw [thA_set T.lt, if_pos rfl]
  · have hs : a.stack = c :: r := hs
    refine BI.push2 (h.down T (t := { a.th with frs := [], st := 5 }) (b := { a.setT { a.th with frs := [], st := 5 } with stack := r, cur := c }) hs (h.cu T).dead (.inl rfl) rfl rfl rfl rfl hd) hd ?_ _ _
    rw [down_ths T hs (t := { a.th with frs := [], st := 5 }) (b := { a.setT { a.th with frs := [], st := 5 } with stack := r, cur := c }) rfl rfl]
    exact T.down hs (.inl rfl)
theorem unwL_suf : ∀ {l r : List AFr}, unwL l = some r → ∃ p, l = p ++ r ∧ p ≠ []
  | [], r, h => by simp [unwL] at h
  | g :: l, r, h => by
    unfold unwL at h
    by_cases hp : g.prot = true ∧ l ≠ []
    · rw [if_pos hp] at h; injection h with h; subst h; exact ⟨[g], rfl, by simp⟩
    · rw [if_neg hp] at h
      obtain ⟨p, h1, h2⟩ := unwL_suf h
      exact ⟨g :: p, by rw [h1]; rfl, by simp⟩
theorem BT.cut {cl : List (Nat × List Nat)} {i : Nat} {t : ATh} {p r : List AFr} (h : BT Ps cl i t) (h4 : t.st = 4) (hf : t.frs = p ++ r) (hp : p ≠ []) (hr : r ≠ []) : BT Ps cl i { t with frs := r } := by
  refine ⟨h.s5, h.fn, fun q => ?_, fun _ => hr, h.z, fun f q => h.bt f ?_, fun f q => h.pc f ?_, fun f q => h.op f ?_, fun q => absurd h4 q⟩
  · have q : t.st = 1 ∨ t.st = 5 := q; omega
  · rw [hf, List.getLast?_append]
    have q : r.getLast? = some f := q
    rw [q]; rfl
  · rw [hf]; exact List.mem_append_right _ q
  · rw [hf]
    cases p with
    | nil => exact absurd rfl hp
    | cons x p => exact List.mem_append_right _ (List.mem_of_mem_tail q)
theorem BI.throw (h : BI Ps a) (hd : a.done = false) (T : TS a.cur a.stack a.ths) (v : PV) : BI Ps (athrow v a) := by
  unfold athrow
  rcases hq : unwL a.th.frs with _ | r
  · exact h.die hd T _ _
  · obtain ⟨p, h1, h2⟩ := unwL_suf hq
    exact BI.push2 (h.setT hd T ((h.cu T).cut T.st h1 h2 (unwL_ne hq)) T.st) hd (T.set (t := { a.th with frs := r }) T.st (unwL_ne hq)) _ _
theorem BI.raise (h : BI Ps a) (hd : a.done = false) (T : TS a.cur a.stack a.ths) (m : Str) : BI Ps (araise m a) := h.throw hd T _
theorem BI.ret (h : BI Ps a) (hd : a.done = false) (T : TS a.cur a.stack a.ths) (u v : PV) : BI Ps (aret u v a) := by
  unfold aret
  rcases hq : a.th.frs with _ | ⟨f, r⟩
  · exact h
  · show BI Ps (if r = [] then _ else if f.prot = true then _ else _)
    have k : r ≠ [] → BI Ps (a.setT { a.th with frs := r }) ∧ TS a.cur a.stack (a.ths.set a.cur { a.th with frs := r }) := fun hr => ⟨h.setT hd T ((h.cu T).cut (p := [f]) T.st hq (by simp) hr) T.st, T.set T.st hr⟩
    refine BI.ite (fun _ => h.die hd T _ _) fun hr0 => BI.ite (fun _ => ?_) fun _ => ?_
    · exact BI.push2 (k hr0).1 hd (k hr0).2 _ _
    · exact BI.push2 (k hr0).1 hd (k hr0).2 _ _
theorem BT.enter {cl : List (Nat × List Nat)} {i : Nat} {t : ATh} {f : AFr} (h : BT Ps cl i t) (h4 : t.st = 4) (ho : ∀ g ∈ t.frs, g.ops.length ≤ 126) (hp : t.frs = [] → f.prot = false) (hc : f.clo < cl.length) (hpc : f.pc = 0) : BT Ps cl i { t with frs := f :: t.frs } := by
  refine ⟨h.s5, h.fn, fun q => ?_, fun _ q => (by cases q), h.z, fun g q => ?_, fun g q => ?_, ho, fun q => absurd h4 q⟩
  · have q : t.st = 1 ∨ t.st = 5 := q; omega
  · have q : (f :: t.frs).getLast? = some g := q
    cases hf : t.frs with
    | nil => rw [hf] at q; simp at q; subst q; exact hp hf
    | cons x r => rw [hf, List.getLast?_cons_cons] at q; exact h.bt g (by rw [hf]; exact q)
  · rcases List.mem_cons.1 q with rfl | q
    · exact ⟨hc, by omega⟩
    · exact h.pc g q
theorem BI.op6 (h : BI Ps a) (T : TS a.cur a.stack a.ths) (h6 : a.fr.ops.length ≤ 126) : ∀ g ∈ a.th.frs, g.ops.length ≤ 126 := by
  intro g hg
  rw [frs_cons T] at hg
  rcases List.mem_cons.1 hg with rfl | hg
  · exact h6
  · exact (h.cu T).op g hg
theorem BI.new (h : BI Ps a) (hd : a.done = false) (vs : List PV) : BI Ps (anew vs a).2 := h.same rfl rfl rfl rfl hd
theorem BI.enter (h : BI Ps a) (hd : a.done = false) (T : TS a.cur a.stack a.ths) {c : Nat} {zs : List PV} {b : Bool} (hc : c < a.clos.length) (h6 : a.fr.ops.length ≤ 126) : BI Ps (aenter Ps c zs b a) := by
  unfold aenter
  exact (h.new hd _).setT hd T ((h.cu T).enter T.st (h.op6 T h6) (fun q => absurd q T.ne) hc rfl) T.st
theorem BI.close (h : BI Ps a) (hd : a.done = false) (T : TS a.cur a.stack a.ths) (x : Nat) : BI Ps (aclose x a) := by
  unfold aclose
  exact (h.new hd _).setF hd T rfl rfl (h.pcl T).2
/-- another thread is resumed. -/
theorem BI.up (h : BI Ps a) (hd : a.done = false) (T : TS a.cur a.stack a.ths) (h6 : a.fr.ops.length ≤ 126) {n : Nat} {t : ATh} (hn : n < a.ths.length) (hs : (thA a.ths n).st = 1 ∨ (thA a.ths n).st = 2) (h4 : t.st = 4) (ht : BT Ps a.clos n t) {b : AS} (hbc : b.clos = a.clos)
    (hbt : b.ths = (a.ths.set a.cur { a.th with st := 3 }).set n t) (hb1 : b.cur = n) (hbf : b.first = if (thA a.ths n).st = 1 then a.first + 1 else a.first) (hbd : b.done = false) : BI Ps b := by
  have hnc : n ≠ a.cur := fun e => by rw [e, T.st] at hs; omega
  have hl : n < (a.ths.set a.cur { a.th with st := 3 }).length := by rw [List.length_set]; exact hn
  have e : ∀ k, thA b.ths k = if k = n then t else if k = a.cur then { a.th with st := 3 } else thA a.ths k := fun k => by
    rw [hbt, thA_set hl, thA_set T.lt]
  have hlen : b.ths.length = a.ths.length := by rw [hbt, List.length_set, List.length_set]
  have hC := h.cu T
  refine ⟨fun i u hu => ?_, fun i hi => ?_, ?_, fun q => by rw [hbd] at q; cases q⟩
  · have hi : i < a.ths.length := by rw [← hlen]; exact (List.getElem?_eq_some_iff.1 hu).1
    have hu' := thA_at (ths := b.ths) (c := i) (by rw [hlen]; exact hi)
    rw [hu] at hu'
    injection hu' with hu'
    rw [hu', e, hbc]
    by_cases hk : i = n
    · rw [if_pos hk, hk]; exact ht
    · rw [if_neg hk]
      by_cases hk2 : i = a.cur
      · rw [if_pos hk2]
        exact ⟨⟨by dsimp only; decide, by dsimp only; decide⟩, hC.fn, fun q => by dsimp only at q; omega, fun _ => T.ne, fun _ => ⟨by dsimp only; decide, by dsimp only; decide⟩, hC.bt, hC.pc, hC.op, fun _ => h.op6 T h6⟩
      · rw [if_neg hk2]; exact h.at hi
  · rw [e] at hi
    rw [hb1]
    by_cases hk : i = n
    · exact hk
    · rw [if_neg hk] at hi
      by_cases hk2 : i = a.cur
      · rw [if_pos hk2] at hi; cases hi
      · rw [if_neg hk2] at hi; exact absurd (h.c4 i hi) hk2
  · have k1 := cntF_set (t := { a.th with st := 3 }) T.lt
    have k2 := cntF_set (t := t) hl
    have k3 := T.st
    have k4 := h.f
    rw [if_neg (by omega), if_neg (by show ¬ 3 = 1; decide)] at k1
    rw [thA_set T.lt, if_neg hnc, if_neg (show ¬ t.st = 1 by omega)] at k2
    rw [hlen, hbt, hbf]
    by_cases q : (thA a.ths n).st = 1
    · rw [if_pos q] at k2 ⊢; omega
    · rw [if_neg q] at k2 ⊢; omega
theorem BI.resume (h : BI Ps a) (hd : a.done = false) (T : TS a.cur a.stack a.ths) (h6 : a.fr.ops.length ≤ 126) {u : PV} (hn : u.N < a.ths.length) (hs : (thA a.ths u.N).st = 1 ∨ (thA a.ths u.N).st = 2) : BI Ps (aresume Ps u v a) := by
  have hnc : u.N ≠ a.cur := fun e => by rw [e, T.st] at hs; omega
  have hth : ∀ (s2 : AS), s2.ths = a.ths.set a.cur { a.th with st := 3 } → s2.cur = u.N → s2.th = thA a.ths u.N := fun s2 h1 h2 => by
    unfold AS.th
    rw [h1, h2]
    exact (thA_set T.lt u.N).trans (if_neg hnc)
  have hB := h.at hn
  have hls : u.N < (a.ths.set a.cur { a.th with st := 3 }).length := by rw [List.length_set]; exact hn
  unfold aresume
  dsimp only
  have h3 : ({ a.setT { a.th with st := 3 } with stack := (a.setT { a.th with st := 3 }).cur :: (a.setT { a.th with st := 3 }).stack, cur := u.N } : AS).th = thA a.ths u.N := hth _ rfl rfl
  rw [h3]
  have h3' : ((({ a.setT { a.th with st := 3 } with stack := (a.setT { a.th with st := 3 }).cur :: (a.setT { a.th with st := 3 }).stack, cur := u.N } : AS).setT { thA a.ths u.N with st := 4 })).th = { thA a.ths u.N with st := 4 } := by
    show thA ((a.ths.set a.cur { a.th with st := 3 }).set u.N { thA a.ths u.N with st := 4 }) u.N = _
    rw [thA_set hls, if_pos rfl]
  have hB4 : BT Ps a.clos u.N { thA a.ths u.N with st := 4 } := ⟨⟨by dsimp only; decide, by dsimp only; decide⟩, hB.fn, fun q => by dsimp only at q; omega, fun q => by dsimp only at q; omega, fun _ => ⟨by dsimp only; decide, by dsimp only; decide⟩, hB.bt, hB.pc, hB.op, fun q => absurd rfl q⟩
  refine BI.ite (fun h1 => ?_) fun h1 => ?_
  · have h1 : (thA a.ths u.N).st = 1 := h1
    have hS : ∀ S : AS, S.th = { thA a.ths u.N with st := 4 } → S.ths = (a.ths.set a.cur { a.th with st := 3 }).set u.N { thA a.ths u.N with st := 4 } → S.cur = u.N → S.first = a.first + 1 → S.done = false → S.clos = a.clos → BI Ps (aenter Ps (a.ths.getD u.N ATh.zero).fn [v] false S) := fun S s1 s2 s3 s4 s5 s6 => by
      refine h.up hd T h6 (n := u.N) (t := { S.th with frs := enF Ps (a.ths.getD u.N ATh.zero).fn [v] false S :: S.th.frs }) hn hs (by rw [s1]) ?_ s6 ?_ s3 (s4.trans (if_pos h1).symm) s5
      · rw [s1]
        exact hB4.enter rfl (fun g hg => by have hg : g ∈ (thA a.ths u.N).frs := hg; rw [hB.e (.inl h1)] at hg; cases hg) (fun _ => rfl) hB.fn rfl
      · show S.ths.set S.cur { S.th with frs := enF Ps (a.ths.getD u.N ATh.zero).fn [v] false S :: S.th.frs } = _
        rw [s2, s3, List.set_set]
    exact hS _ h3' rfl rfl rfl hd rfl
  · have h1 : ¬ (thA a.ths u.N).st = 1 := h1
    have h2 : (thA a.ths u.N).st = 2 := by
      rcases hs with hs | hs
      · exact absurd hs h1
      · exact hs
    have hne := T.y _ h2
    unfold apush2
    rw [h3']
    rcases hq : (thA a.ths u.N).frs with _ | ⟨f0, r0⟩
    · exact absurd hq hne
    · refine h.up hd T h6 (n := u.N) (t := { st := 4, fn := (thA a.ths u.N).fn, frs := { f0 with ops := vNil :: v :: f0.ops } :: r0 }) hn hs rfl ?_ rfl ?_ rfl (if_neg h1).symm hd
      · exact hB4.setF (f' := { f0 with ops := vNil :: v :: f0.ops }) rfl hq rfl rfl (hB.pc f0 (by rw [hq]; exact List.mem_cons_self)).2
      · show ((a.ths.set a.cur { a.th with st := 3 }).set u.N { st := 4, fn := (thA a.ths u.N).fn, frs := f0 :: r0 }).set u.N _ = _
        rw [List.set_set]
end

end Go.Proofs.Qxb6500568aGreatDoor
