import Derived.Test.Qxb6500568aGreatDoorNp
namespace Go.Proofs.Qxb6500568aGreatDoor
open Ieee
set_option linter.unusedVariables false
set_option linter.unusedSimpArgs false
set_option linter.unusedSectionVars false

/-! The image: the bytes of all functions. -/

def by8 (x : Nat) : UInt8 := UInt8.ofNat x
def by16 (x : Nat) : Str := [by8 x, by8 (x / 256)]
def kby (v : PV) : Str := if v.T = 2 then 1 :: (List.range 8).map (fun i => by8 (v.N / 256 ^ i)) else 2 :: by8 v.S.length :: v.S
def uby (d : Nat × Nat) : Str := [by8 d.1, by8 d.2]
def iby (d : Nat × Nat) : Str := [by8 d.1, by8 d.2, by8 (d.2 / 256)]
def fby (f : FS) : Str := [by8 f.np, by8 f.ns, by8 f.ups.length] ++ f.ups.flatMap uby ++ by16 f.ks.length ++ f.ks.flatMap kby ++ by16 f.code.length ++ f.code.flatMap iby
def img (F : Fns) : Str := by8 F.length :: F.flatMap fby

theorem kby_len (v : PV) : (kby v).length = kb v := by
  unfold kby kb
  split <;> simp; omega
theorem flat_len {α : Type} {f : α → Str} {c : Nat} (h : ∀ x, (f x).length = c) : ∀ l : List α, (l.flatMap f).length = c * l.length
  | [] => by simp
  | x :: l => by
    rw [List.flatMap_cons, List.length_append, h, flat_len h l, List.length_cons, Nat.mul_succ]; omega
theorem kflat_len : ∀ l : List PV, (l.flatMap kby).length = (l.map kb).sum
  | [] => rfl
  | x :: l => by rw [List.flatMap_cons, List.length_append, kby_len, kflat_len l, List.map_cons, List.sum_cons]
theorem fby_len (f : FS) : (fby f).length = 7 + fb f := by
  unfold fby fb
  simp only [List.length_append, flat_len (f := uby) (c := 2) (fun _ => rfl), flat_len (f := iby) (c := 3) (fun _ => rfl), kflat_len, List.length_cons, List.length_nil, by16]
  omega
theorem img_len : ∀ F : Fns, (img F).length = 1 + 7 * F.length + tot F
  | [] => by simp [img, tot]
  | f :: F => by
    have := img_len F
    simp only [img, List.length_cons, List.flatMap_cons, List.length_append, fby_len, tot, List.map_cons, List.sum_cons] at this ⊢
    omega
theorem prog_img {G : Arena} {root n : Nat} {t : StL} (hr : IsSL G root t) (hW : W t false 0) (hn : (0 :: numsT t).Nodup) (hl : ∀ k ∈ 0 :: numsT t, k < n) (h13 : n ≤ 13) (hnd : ndT t ≤ 300) : (img (progF t n)).length ≤ 32768 := by
  obtain ⟨-, h1, h2, -⟩ := prog_bd hr hW hn hl h13 hnd
  rw [img_len, h2]
  omega
theorem le8 {n : Nat} (h : W64 n) : ((((((((0 * 256 + n / 256 ^ 7 % 256) * 256 + n / 256 ^ 6 % 256) * 256 + n / 256 ^ 5 % 256) * 256 + n / 256 ^ 4 % 256) * 256 + n / 256 ^ 3 % 256) * 256 + n / 256 ^ 2 % 256) * 256 + n / 256 ^ 1 % 256) * 256 + n / 256 ^ 0 % 256) = n := by
  have h : n < 18446744073709551616 := h
  simp only [Nat.reducePow, Nat.zero_mul, Nat.zero_add, Nat.div_one]
  omega

end Go.Proofs.Qxb6500568aGreatDoor
