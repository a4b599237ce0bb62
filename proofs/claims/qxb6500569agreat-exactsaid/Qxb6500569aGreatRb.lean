import Derived.Test.Qxb6500569aGreatPk
/- The model's search in memory. -/
namespace Go.Proofs.Qxb6500569aGreat
set_option linter.unusedVariables false
set_option linter.unusedSimpArgs false

abbrev An := Nat × Nat × Nat × List UInt8
def anc (a : An) : List Value := [i64c a.1, i64c a.2.1, i64c a.2.2.1, S a.2.2.2]

theorem ancs_len (l : List An) : (l.flatMap anc).length = l.length * 4 := by
  induction l with
  | nil => rfl
  | cons a l ih => simp [anc, ih]; omega

/-- What does not turn in a search. -/
structure SC where
  mpb : Nat
  opn : Bool
  q : List UInt8
  fuel : Nat
  given : Nat

structure SM (H : Array Obj) (sb : Nat) (VL : Value) (C : SC) (st : SSt) : Prop where
  blk : Blk H sb [ptr C.mpb, .bool C.opn, S C.q, i64c C.fuel, i64c C.given, VL, i64c st.inf, i64c st.tried, i64c st.fin] 49
  own : Own H VL 94 4 st.list.length (st.list.flatMap anc)

def SFoot (sb : Nat) (VL : Value) : Nat → Prop := fun b => b = sb ∨ VL.ownBlock = some b

theorem SM.none {w w' : World} {sb : Nat} {VL : Value} {C : SC} {st : SSt} (h : SM w.heap sb VL C st) (hf : Fram none' w w') : SM w'.heap sb VL C st :=
  ⟨h.blk.fram hf (fun h => h), h.own.fram hf (fun _ _ h => h)⟩

end Go.Proofs.Qxb6500569aGreat
