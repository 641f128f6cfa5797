/-
  NARROWER THAN 'FOR EVERY INPUT', by the rows' own cells (each row's printed sentence says how): DctForward: laid · DctInverse: laid · DctTurns: laid · DctFlat: laid.
  DERIVED. THE GIVEN ROWS OF THIS SEAT. 4 by the template 'for every input the law returns true; each argument reads behind the call as it read before'; 0 by the template 'total and deterministic' (their statements: YtimkedfdeghmnaaDoorTotals.lean).
  GIVEN WITH THE SEED: the statements are not yours to turn. If you find one false, say at which input.
  Laid BY PROGRAM, IN A SANDBOX (cutbox-rows.mjs): the forced cells as the released guide's own fill.sh prints them over the translation 43e431fffcd11a38… (all of the seat's roots in one cut). By AI agents, Wed Nov 11 2026. No macro, syntax, notation, axiom, sorry.
-/
import Derived.Test.YtimkedfdeghmnaaDoorChecked
import GoSem.Claim
import GoSem.ClaimJoined
import GoSem.ClaimMapViews
import Derived.JoinedTies
import Derived.KernelRfl
namespace Go.Proofs.YtimkedfdeghmnaaDoor
/- THE CELL 'sum', in the pinned program and in every row, IS THE sha256 OF THE DUMP (.gsa) THAT YtimkedfdeghmnaaDoorProg.lean LOADS. Nothing in Lean hashes anything: it is a label: what it is worth is what the hold of that sum in a sandbox is worth. -/
noncomputable def Tryd.pinned : Pinned := { name := "ytimkedfdeghmnaadoor", sum := "43e431fffcd11a38c52c6a1486db6a8719171c82d10628419a6efd6ea815dfa2", checked := Tryd.checked }
namespace Rows
def none {H : Type} : Left H := { results := [], args := [] }

/- WHAT THE LISTED PACKAGE-LEVEL VARIABLES READ AS WHEN THE CALL BEGINS. Each datum BY PROGRAM (the guide's laid-datum.mjs) off the statement by which the dump's own 'gosem.cut.vars' lays the variable. In a bare row this is a premise. The card (YtimkedfdeghmnaaDoorCards.lean) ties it to the program's text. -/
def laid_overspill_dct_weights {H : Type} : DataW H := .agg [.agg [.lit (.int .i64 64), .lit (.int .i64 64), .lit (.int .i64 64), .lit (.int .i64 64), .lit (.int .i64 64), .lit (.int .i64 64), .lit (.int .i64 64), .lit (.int .i64 64)], .agg [.lit (.int .i64 89), .lit (.int .i64 75), .lit (.int .i64 50), .lit (.int .i64 18), .lit (.int .i64 (-18)), .lit (.int .i64 (-50)), .lit (.int .i64 (-75)), .lit (.int .i64 (-89))], .agg [.lit (.int .i64 83), .lit (.int .i64 36), .lit (.int .i64 (-36)), .lit (.int .i64 (-83)), .lit (.int .i64 (-83)), .lit (.int .i64 (-36)), .lit (.int .i64 36), .lit (.int .i64 83)], .agg [.lit (.int .i64 75), .lit (.int .i64 (-18)), .lit (.int .i64 (-89)), .lit (.int .i64 (-50)), .lit (.int .i64 50), .lit (.int .i64 89), .lit (.int .i64 18), .lit (.int .i64 (-75))], .agg [.lit (.int .i64 64), .lit (.int .i64 (-64)), .lit (.int .i64 (-64)), .lit (.int .i64 64), .lit (.int .i64 64), .lit (.int .i64 (-64)), .lit (.int .i64 (-64)), .lit (.int .i64 64)], .agg [.lit (.int .i64 50), .lit (.int .i64 (-89)), .lit (.int .i64 18), .lit (.int .i64 75), .lit (.int .i64 (-75)), .lit (.int .i64 (-18)), .lit (.int .i64 89), .lit (.int .i64 (-50))], .agg [.lit (.int .i64 36), .lit (.int .i64 (-83)), .lit (.int .i64 83), .lit (.int .i64 (-36)), .lit (.int .i64 (-36)), .lit (.int .i64 83), .lit (.int .i64 (-83)), .lit (.int .i64 36)], .agg [.lit (.int .i64 18), .lit (.int .i64 (-50)), .lit (.int .i64 75), .lit (.int .i64 (-89)), .lit (.int .i64 89), .lit (.int .i64 (-75)), .lit (.int .i64 50), .lit (.int .i64 (-18))]]

/-- 'overspilllaw14.DctForward': WHATEVER THE INPUT: true; the input reads as it did. -/
def dctForwardSpec : ChangeSpec := { name := "dctForward", fn := fun _ => fun
  | [d] => { results := [.lit (.bool true)], args := [d] }
  | _ => none }
def dctForwardRow : OpenClaim := { program := "ytimkedfdeghmnaadoor", sum := "43e431fffcd11a38c52c6a1486db6a8719171c82d10628419a6efd6ea815dfa2", func := "overspill/overspilllaw14.DctForward", spec := "dctForward", unfollowed := true, recurses := true, named := ["overspill/dct.weights"], apart := false, laid := [("overspill/dct.weights", laid_overspill_dct_weights)] }
def DctForwardSaid : Prop := dctForwardRow.holds Tryd.pinned (OpenSpec.ofChange dctForwardSpec)

/-- ITS FALSE NEIGHBOUR: 'it returns false'. Refute it at one input. -/
def dctForwardWrong : ChangeSpec := { name := "dctForward", fn := fun _ => fun
  | [d] => { results := [.lit (.bool false)], args := [d] }
  | _ => none }
def DctForwardWrongFalsely : Prop := dctForwardRow.holds Tryd.pinned (OpenSpec.ofChange dctForwardWrong)

/-- 'overspilllaw14.DctInverse': WHATEVER THE INPUT: true; the input reads as it did. -/
def dctInverseSpec : ChangeSpec := { name := "dctInverse", fn := fun _ => fun
  | [d] => { results := [.lit (.bool true)], args := [d] }
  | _ => none }
def dctInverseRow : OpenClaim := { program := "ytimkedfdeghmnaadoor", sum := "43e431fffcd11a38c52c6a1486db6a8719171c82d10628419a6efd6ea815dfa2", func := "overspill/overspilllaw14.DctInverse", spec := "dctInverse", unfollowed := true, recurses := true, named := ["overspill/dct.weights"], apart := false, laid := [("overspill/dct.weights", laid_overspill_dct_weights)] }
def DctInverseSaid : Prop := dctInverseRow.holds Tryd.pinned (OpenSpec.ofChange dctInverseSpec)

/-- ITS FALSE NEIGHBOUR: 'it returns false'. Refute it at one input. -/
def dctInverseWrong : ChangeSpec := { name := "dctInverse", fn := fun _ => fun
  | [d] => { results := [.lit (.bool false)], args := [d] }
  | _ => none }
def DctInverseWrongFalsely : Prop := dctInverseRow.holds Tryd.pinned (OpenSpec.ofChange dctInverseWrong)

/-- 'overspilllaw14.DctTurns': WHATEVER THE INPUT: true; the input reads as it did. -/
def dctTurnsSpec : ChangeSpec := { name := "dctTurns", fn := fun _ => fun
  | [d] => { results := [.lit (.bool true)], args := [d] }
  | _ => none }
def dctTurnsRow : OpenClaim := { program := "ytimkedfdeghmnaadoor", sum := "43e431fffcd11a38c52c6a1486db6a8719171c82d10628419a6efd6ea815dfa2", func := "overspill/overspilllaw14.DctTurns", spec := "dctTurns", unfollowed := true, recurses := true, named := ["overspill/dct.weights"], apart := false, laid := [("overspill/dct.weights", laid_overspill_dct_weights)] }
def DctTurnsSaid : Prop := dctTurnsRow.holds Tryd.pinned (OpenSpec.ofChange dctTurnsSpec)

/-- ITS FALSE NEIGHBOUR: 'it returns false'. Refute it at one input. -/
def dctTurnsWrong : ChangeSpec := { name := "dctTurns", fn := fun _ => fun
  | [d] => { results := [.lit (.bool false)], args := [d] }
  | _ => none }
def DctTurnsWrongFalsely : Prop := dctTurnsRow.holds Tryd.pinned (OpenSpec.ofChange dctTurnsWrong)

/-- 'overspilllaw14.DctFlat': WHATEVER THE INPUT: true; the input reads as it did. -/
def dctFlatSpec : ChangeSpec := { name := "dctFlat", fn := fun _ => fun
  | [d] => { results := [.lit (.bool true)], args := [d] }
  | _ => none }
def dctFlatRow : OpenClaim := { program := "ytimkedfdeghmnaadoor", sum := "43e431fffcd11a38c52c6a1486db6a8719171c82d10628419a6efd6ea815dfa2", func := "overspill/overspilllaw14.DctFlat", spec := "dctFlat", unfollowed := true, recurses := true, named := ["overspill/dct.weights"], apart := false, laid := [("overspill/dct.weights", laid_overspill_dct_weights)] }
def DctFlatSaid : Prop := dctFlatRow.holds Tryd.pinned (OpenSpec.ofChange dctFlatSpec)

/-- ITS FALSE NEIGHBOUR: 'it returns false'. Refute it at one input. -/
def dctFlatWrong : ChangeSpec := { name := "dctFlat", fn := fun _ => fun
  | [d] => { results := [.lit (.bool false)], args := [d] }
  | _ => none }
def DctFlatWrongFalsely : Prop := dctFlatRow.holds Tryd.pinned (OpenSpec.ofChange dctFlatWrong)

/- THE SECOND FORM. 'bulk': how many values and letters a reading holds, each counted each time it is reached (what is shared counts as often as it is met; a slice's spare places count too). A statement '..UptoSaid' is the law's where the arguments, and the package variables that the reading takes, are together of bulk at most 1048576: NARROWER than '..Said'. Prove '..Said' where nothing that the law and all that it calls make is longer than what came in: it says more and counts as full. Else prove '..UptoSaid'. A law counts once. -/
mutual
def uptoBulk {H : Type} : DataW H → Nat
  | .lit (.string bytes) => bytes.length + 1
  | .lit _ => 1
  | .nil => 1
  | .ptr d => uptoBulk d + 1
  | .slice elems spare => uptoBulkAll elems + uptoBulkAll spare + 1
  | .agg parts => uptoBulkAll parts + 1
  | .iface _ d => uptoBulk d + 1
  | .map entries => uptoBulkEntries entries + 1
  | .held _ => 1
def uptoBulkAll {H : Type} : List (DataW H) → Nat
  | [] => 0
  | d :: r => uptoBulk d + uptoBulkAll r
def uptoBulkEntries {H : Type} : List (Lit × DataW H) → Nat
  | [] => 0
  | x :: r => uptoBulkEntry x + uptoBulkEntries r
def uptoBulkEntry {H : Type} : Lit × DataW H → Nat
  | (.string bytes, d) => bytes.length + uptoBulk d + 1
  | (_, d) => uptoBulk d + 1
 end
def uptoSmall : (H : Type) → List (DataW H) → Bool := fun _ ds => decide (uptoBulkAll ds ≤ 1048576)
def OpenSpec.upto (s : _root_.Go.ChangeSpec) : _root_.Go.OpenSpec := { _root_.Go.OpenSpec.ofChange s with cond := some uptoSmall }

/-- 'overspilllaw14.DctForward', WHERE WHAT IT READS IS OF BULK AT MOST 1048576: true; the input reads as it did. -/
def dctForwardUptoRow : OpenClaim := { program := "ytimkedfdeghmnaadoor", sum := "43e431fffcd11a38c52c6a1486db6a8719171c82d10628419a6efd6ea815dfa2", func := "overspill/overspilllaw14.DctForward", spec := "dctForward", unfollowed := true, recurses := true, named := ["overspill/dct.weights"], apart := false, laid := [("overspill/dct.weights", laid_overspill_dct_weights)], narrowed := true }
def DctForwardUptoSaid : Prop := dctForwardUptoRow.holds Tryd.pinned (OpenSpec.upto dctForwardSpec)

/-- 'overspilllaw14.DctInverse', WHERE WHAT IT READS IS OF BULK AT MOST 1048576: true; the input reads as it did. -/
def dctInverseUptoRow : OpenClaim := { program := "ytimkedfdeghmnaadoor", sum := "43e431fffcd11a38c52c6a1486db6a8719171c82d10628419a6efd6ea815dfa2", func := "overspill/overspilllaw14.DctInverse", spec := "dctInverse", unfollowed := true, recurses := true, named := ["overspill/dct.weights"], apart := false, laid := [("overspill/dct.weights", laid_overspill_dct_weights)], narrowed := true }
def DctInverseUptoSaid : Prop := dctInverseUptoRow.holds Tryd.pinned (OpenSpec.upto dctInverseSpec)

/-- 'overspilllaw14.DctTurns', WHERE WHAT IT READS IS OF BULK AT MOST 1048576: true; the input reads as it did. -/
def dctTurnsUptoRow : OpenClaim := { program := "ytimkedfdeghmnaadoor", sum := "43e431fffcd11a38c52c6a1486db6a8719171c82d10628419a6efd6ea815dfa2", func := "overspill/overspilllaw14.DctTurns", spec := "dctTurns", unfollowed := true, recurses := true, named := ["overspill/dct.weights"], apart := false, laid := [("overspill/dct.weights", laid_overspill_dct_weights)], narrowed := true }
def DctTurnsUptoSaid : Prop := dctTurnsUptoRow.holds Tryd.pinned (OpenSpec.upto dctTurnsSpec)

/-- 'overspilllaw14.DctFlat', WHERE WHAT IT READS IS OF BULK AT MOST 1048576: true; the input reads as it did. -/
def dctFlatUptoRow : OpenClaim := { program := "ytimkedfdeghmnaadoor", sum := "43e431fffcd11a38c52c6a1486db6a8719171c82d10628419a6efd6ea815dfa2", func := "overspill/overspilllaw14.DctFlat", spec := "dctFlat", unfollowed := true, recurses := true, named := ["overspill/dct.weights"], apart := false, laid := [("overspill/dct.weights", laid_overspill_dct_weights)], narrowed := true }
def DctFlatUptoSaid : Prop := dctFlatUptoRow.holds Tryd.pinned (OpenSpec.upto dctFlatSpec)

end Rows
end Go.Proofs.YtimkedfdeghmnaaDoor
