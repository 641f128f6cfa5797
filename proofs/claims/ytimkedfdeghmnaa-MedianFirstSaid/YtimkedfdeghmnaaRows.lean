/-
  No cell of these rows narrows 'for every input' (looked for: loops, veiled, ifaces, maps, wideKeys, modest, calm, conditions, laid).
  DERIVED. THE GIVEN ROWS OF THIS SEAT. 6 by the template 'for every input the law returns true; each argument reads behind the call as it read before'; 0 by the template 'total and deterministic' (their statements: YtimkedfdeghmnaaTotals.lean).
  GIVEN WITH THE SEED: the statements are not yours to turn. If you find one false, say at which input.
  Laid BY PROGRAM, IN A SANDBOX (cutbox-rows.mjs): the forced cells as the released guide's own fill.sh prints them over the translation 3e54bf3dcfa78f47… (all of the seat's roots in one cut). By AI agents, Wed Nov 11 2026. No macro, syntax, notation, axiom, sorry.
-/
import Derived.Test.YtimkedfdeghmnaaChecked
import GoSem.Claim
import GoSem.ClaimJoined
import GoSem.ClaimMapViews
import Derived.JoinedTies
import Derived.KernelRfl
namespace Go.Proofs.Ytimkedfdeghmnaa
/- THE CELL 'sum', in the pinned program and in every row, IS THE sha256 OF THE DUMP (.gsa) THAT YtimkedfdeghmnaaProg.lean LOADS. Nothing in Lean hashes anything: it is a label: what it is worth is what the hold of that sum in a sandbox is worth. -/
noncomputable def Try.pinned : Pinned := { name := "ytimkedfdeghmnaa", sum := "3e54bf3dcfa78f47b80927ff272bad28ada302f416bba5b203ce23a4d0529e58", checked := Try.checked }
namespace Rows
def none {H : Type} : Left H := { results := [], args := [] }

/-- 'overspilllaw19.MedianOf': WHATEVER THE INPUT: true; the input reads as it did. -/
def medianOfSpec : ChangeSpec := { name := "medianOf", fn := fun _ => fun
  | [d1, d2, d3] => { results := [.lit (.bool true)], args := [d1, d2, d3] }
  | _ => none }
def medianOfRow : OpenClaim := { program := "ytimkedfdeghmnaa", sum := "3e54bf3dcfa78f47b80927ff272bad28ada302f416bba5b203ce23a4d0529e58", func := "overspill/overspilllaw19.MedianOf", spec := "medianOf", apart := false }
def MedianOfSaid : Prop := medianOfRow.holds Try.pinned (OpenSpec.ofChange medianOfSpec)

/-- ITS FALSE NEIGHBOUR: 'it returns false'. Refute it at one input. -/
def medianOfWrong : ChangeSpec := { name := "medianOf", fn := fun _ => fun
  | [d1, d2, d3] => { results := [.lit (.bool false)], args := [d1, d2, d3] }
  | _ => none }
def MedianOfWrongFalsely : Prop := medianOfRow.holds Try.pinned (OpenSpec.ofChange medianOfWrong)

/-- 'overspilllaw19.MedianFirst': WHATEVER THE INPUT: true; the input reads as it did. -/
def medianFirstSpec : ChangeSpec := { name := "medianFirst", fn := fun _ => fun
  | [d1, d2, d3] => { results := [.lit (.bool true)], args := [d1, d2, d3] }
  | _ => none }
def medianFirstRow : OpenClaim := { program := "ytimkedfdeghmnaa", sum := "3e54bf3dcfa78f47b80927ff272bad28ada302f416bba5b203ce23a4d0529e58", func := "overspill/overspilllaw19.MedianFirst", spec := "medianFirst", apart := false }
def MedianFirstSaid : Prop := medianFirstRow.holds Try.pinned (OpenSpec.ofChange medianFirstSpec)

/-- ITS FALSE NEIGHBOUR: 'it returns false'. Refute it at one input. -/
def medianFirstWrong : ChangeSpec := { name := "medianFirst", fn := fun _ => fun
  | [d1, d2, d3] => { results := [.lit (.bool false)], args := [d1, d2, d3] }
  | _ => none }
def MedianFirstWrongFalsely : Prop := medianFirstRow.holds Try.pinned (OpenSpec.ofChange medianFirstWrong)

/-- 'overspilllaw01.WholeClips': WHATEVER THE INPUT: true; the input reads as it did. -/
def wholeClipsSpec : ChangeSpec := { name := "wholeClips", fn := fun _ => fun
  | [d1, d2, d3] => { results := [.lit (.bool true)], args := [d1, d2, d3] }
  | _ => none }
def wholeClipsRow : OpenClaim := { program := "ytimkedfdeghmnaa", sum := "3e54bf3dcfa78f47b80927ff272bad28ada302f416bba5b203ce23a4d0529e58", func := "overspill/overspilllaw01.WholeClips", spec := "wholeClips", apart := false }
def WholeClipsSaid : Prop := wholeClipsRow.holds Try.pinned (OpenSpec.ofChange wholeClipsSpec)

/-- ITS FALSE NEIGHBOUR: 'it returns false'. Refute it at one input. -/
def wholeClipsWrong : ChangeSpec := { name := "wholeClips", fn := fun _ => fun
  | [d1, d2, d3] => { results := [.lit (.bool false)], args := [d1, d2, d3] }
  | _ => none }
def WholeClipsWrongFalsely : Prop := wholeClipsRow.holds Try.pinned (OpenSpec.ofChange wholeClipsWrong)

/-- 'overspilllaw01.WholeWraps': WHATEVER THE INPUT: true; the input reads as it did. -/
def wholeWrapsSpec : ChangeSpec := { name := "wholeWraps", fn := fun _ => fun
  | [d] => { results := [.lit (.bool true)], args := [d] }
  | _ => none }
def wholeWrapsRow : OpenClaim := { program := "ytimkedfdeghmnaa", sum := "3e54bf3dcfa78f47b80927ff272bad28ada302f416bba5b203ce23a4d0529e58", func := "overspill/overspilllaw01.WholeWraps", spec := "wholeWraps", apart := false }
def WholeWrapsSaid : Prop := wholeWrapsRow.holds Try.pinned (OpenSpec.ofChange wholeWrapsSpec)

/-- ITS FALSE NEIGHBOUR: 'it returns false'. Refute it at one input. -/
def wholeWrapsWrong : ChangeSpec := { name := "wholeWraps", fn := fun _ => fun
  | [d] => { results := [.lit (.bool false)], args := [d] }
  | _ => none }
def WholeWrapsWrongFalsely : Prop := wholeWrapsRow.holds Try.pinned (OpenSpec.ofChange wholeWrapsWrong)

/-- 'overspilllaw01.WholeShares': WHATEVER THE INPUT: true; the input reads as it did. -/
def wholeSharesSpec : ChangeSpec := { name := "wholeShares", fn := fun _ => fun
  | [d1, d2, d3] => { results := [.lit (.bool true)], args := [d1, d2, d3] }
  | _ => none }
def wholeSharesRow : OpenClaim := { program := "ytimkedfdeghmnaa", sum := "3e54bf3dcfa78f47b80927ff272bad28ada302f416bba5b203ce23a4d0529e58", func := "overspill/overspilllaw01.WholeShares", spec := "wholeShares", apart := false }
def WholeSharesSaid : Prop := wholeSharesRow.holds Try.pinned (OpenSpec.ofChange wholeSharesSpec)

/-- ITS FALSE NEIGHBOUR: 'it returns false'. Refute it at one input. -/
def wholeSharesWrong : ChangeSpec := { name := "wholeShares", fn := fun _ => fun
  | [d1, d2, d3] => { results := [.lit (.bool false)], args := [d1, d2, d3] }
  | _ => none }
def WholeSharesWrongFalsely : Prop := wholeSharesRow.holds Try.pinned (OpenSpec.ofChange wholeSharesWrong)

/-- 'overspilllaw01.WholeRounds': WHATEVER THE INPUT: true; the input reads as it did. -/
def wholeRoundsSpec : ChangeSpec := { name := "wholeRounds", fn := fun _ => fun
  | [d1, d2] => { results := [.lit (.bool true)], args := [d1, d2] }
  | _ => none }
def wholeRoundsRow : OpenClaim := { program := "ytimkedfdeghmnaa", sum := "3e54bf3dcfa78f47b80927ff272bad28ada302f416bba5b203ce23a4d0529e58", func := "overspill/overspilllaw01.WholeRounds", spec := "wholeRounds", apart := false }
def WholeRoundsSaid : Prop := wholeRoundsRow.holds Try.pinned (OpenSpec.ofChange wholeRoundsSpec)

/-- ITS FALSE NEIGHBOUR: 'it returns false'. Refute it at one input. -/
def wholeRoundsWrong : ChangeSpec := { name := "wholeRounds", fn := fun _ => fun
  | [d1, d2] => { results := [.lit (.bool false)], args := [d1, d2] }
  | _ => none }
def WholeRoundsWrongFalsely : Prop := wholeRoundsRow.holds Try.pinned (OpenSpec.ofChange wholeRoundsWrong)

/- THE SECOND FORM. 'bulk': how many values and letters a reading holds, each counted each time it is reached (what is shared counts as often as it is met; a slice's spare places count too). A statement '..UptoSaid' is the law's where the arguments, and the package variables that the reading takes, are together of bulk at most 1048576: NARROWER than '..Said'. Prove '..Said' where nothing that the law and all that it calls make is longer than what came in: it says more and counts as full. Else prove '..UptoSaid'. A law counts once. -/
mutual
def uptoBulk {H : Type} : DataW H → Nat
  | .lit (.string bytes) => bytes.length + 1
  | .lit _ => 1
  | .nil => 1
  | .ptr d => uptoBulk d + 1
  | .slice elems spare => uptoBulkAll elems + uptoBulkAll spare + 1
  | .agg parts => uptoBulkAll parts + 1
  | .iface _ d => uptoBulk d + 1
  | .map entries => uptoBulkEntries entries + 1
  | .held _ => 1
def uptoBulkAll {H : Type} : List (DataW H) → Nat
  | [] => 0
  | d :: r => uptoBulk d + uptoBulkAll r
def uptoBulkEntries {H : Type} : List (Lit × DataW H) → Nat
  | [] => 0
  | x :: r => uptoBulkEntry x + uptoBulkEntries r
def uptoBulkEntry {H : Type} : Lit × DataW H → Nat
  | (.string bytes, d) => bytes.length + uptoBulk d + 1
  | (_, d) => uptoBulk d + 1
 end
def uptoSmall : (H : Type) → List (DataW H) → Bool := fun _ ds => decide (uptoBulkAll ds ≤ 1048576)
def OpenSpec.upto (s : _root_.Go.ChangeSpec) : _root_.Go.OpenSpec := { _root_.Go.OpenSpec.ofChange s with cond := some uptoSmall }

/-- 'overspilllaw19.MedianOf', WHERE WHAT IT READS IS OF BULK AT MOST 1048576: true; the input reads as it did. -/
def medianOfUptoRow : OpenClaim := { program := "ytimkedfdeghmnaa", sum := "3e54bf3dcfa78f47b80927ff272bad28ada302f416bba5b203ce23a4d0529e58", func := "overspill/overspilllaw19.MedianOf", spec := "medianOf", apart := false, narrowed := true }
def MedianOfUptoSaid : Prop := medianOfUptoRow.holds Try.pinned (OpenSpec.upto medianOfSpec)

/-- 'overspilllaw19.MedianFirst', WHERE WHAT IT READS IS OF BULK AT MOST 1048576: true; the input reads as it did. -/
def medianFirstUptoRow : OpenClaim := { program := "ytimkedfdeghmnaa", sum := "3e54bf3dcfa78f47b80927ff272bad28ada302f416bba5b203ce23a4d0529e58", func := "overspill/overspilllaw19.MedianFirst", spec := "medianFirst", apart := false, narrowed := true }
def MedianFirstUptoSaid : Prop := medianFirstUptoRow.holds Try.pinned (OpenSpec.upto medianFirstSpec)

/-- 'overspilllaw01.WholeClips', WHERE WHAT IT READS IS OF BULK AT MOST 1048576: true; the input reads as it did. -/
def wholeClipsUptoRow : OpenClaim := { program := "ytimkedfdeghmnaa", sum := "3e54bf3dcfa78f47b80927ff272bad28ada302f416bba5b203ce23a4d0529e58", func := "overspill/overspilllaw01.WholeClips", spec := "wholeClips", apart := false, narrowed := true }
def WholeClipsUptoSaid : Prop := wholeClipsUptoRow.holds Try.pinned (OpenSpec.upto wholeClipsSpec)

/-- 'overspilllaw01.WholeWraps', WHERE WHAT IT READS IS OF BULK AT MOST 1048576: true; the input reads as it did. -/
def wholeWrapsUptoRow : OpenClaim := { program := "ytimkedfdeghmnaa", sum := "3e54bf3dcfa78f47b80927ff272bad28ada302f416bba5b203ce23a4d0529e58", func := "overspill/overspilllaw01.WholeWraps", spec := "wholeWraps", apart := false, narrowed := true }
def WholeWrapsUptoSaid : Prop := wholeWrapsUptoRow.holds Try.pinned (OpenSpec.upto wholeWrapsSpec)

/-- 'overspilllaw01.WholeShares', WHERE WHAT IT READS IS OF BULK AT MOST 1048576: true; the input reads as it did. -/
def wholeSharesUptoRow : OpenClaim := { program := "ytimkedfdeghmnaa", sum := "3e54bf3dcfa78f47b80927ff272bad28ada302f416bba5b203ce23a4d0529e58", func := "overspill/overspilllaw01.WholeShares", spec := "wholeShares", apart := false, narrowed := true }
def WholeSharesUptoSaid : Prop := wholeSharesUptoRow.holds Try.pinned (OpenSpec.upto wholeSharesSpec)

/-- 'overspilllaw01.WholeRounds', WHERE WHAT IT READS IS OF BULK AT MOST 1048576: true; the input reads as it did. -/
def wholeRoundsUptoRow : OpenClaim := { program := "ytimkedfdeghmnaa", sum := "3e54bf3dcfa78f47b80927ff272bad28ada302f416bba5b203ce23a4d0529e58", func := "overspill/overspilllaw01.WholeRounds", spec := "wholeRounds", apart := false, narrowed := true }
def WholeRoundsUptoSaid : Prop := wholeRoundsUptoRow.holds Try.pinned (OpenSpec.upto wholeRoundsSpec)

end Rows
end Go.Proofs.Ytimkedfdeghmnaa
