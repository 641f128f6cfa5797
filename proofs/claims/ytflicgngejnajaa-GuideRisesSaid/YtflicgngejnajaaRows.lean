/-
  No cell of these rows narrows 'for every input' (looked for: loops, veiled, ifaces, maps, wideKeys, modest, calm, conditions, laid).
  DERIVED. THE GIVEN ROWS OF THIS SEAT. 3 by the template 'for every input the law returns true; each argument reads behind the call as it read before'; 0 by the template 'total and deterministic' (their statements: YtflicgngejnajaaTotals.lean).
  GIVEN WITH THE SEED: the statements are not yours to turn. If you find one false, say at which input.
  Laid BY PROGRAM, IN A SANDBOX (cutbox-rows.mjs): the forced cells as the released guide's own fill.sh prints them over the translation 9c38f022026bc574… (all of the seat's roots in one cut). By AI agents, Wed Nov 11 2026. No macro, syntax, notation, axiom, sorry.
-/
import Derived.Test.YtflicgngejnajaaChecked
import GoSem.Claim
import GoSem.ClaimJoined
import GoSem.ClaimMapViews
import Derived.JoinedTies
import Derived.KernelRfl
namespace Go.Proofs.Ytflicgngejnajaa
/- THE CELL 'sum', in the pinned program and in every row, IS THE sha256 OF THE DUMP (.gsa) THAT YtflicgngejnajaaProg.lean LOADS. Nothing in Lean hashes anything: it is a label: what it is worth is what the hold of that sum in a sandbox is worth. -/
noncomputable def Try.pinned : Pinned := { name := "ytflicgngejnajaa", sum := "9c38f022026bc574d1562d82cc58d4a39dcee27c86a6926caa7f8fdf4627e473", checked := Try.checked }
namespace Rows
def none {H : Type} : Left H := { results := [], args := [] }

/-- 'overspilllaw42.GuideLists': WHATEVER THE INPUT: true; the input reads as it did. -/
def guideListsSpec : ChangeSpec := { name := "guideLists", fn := fun _ => fun
  | [d1, d2] => { results := [.lit (.bool true)], args := [d1, d2] }
  | _ => none }
def guideListsRow : OpenClaim := { program := "ytflicgngejnajaa", sum := "9c38f022026bc574d1562d82cc58d4a39dcee27c86a6926caa7f8fdf4627e473", func := "overspill/overspilllaw42.GuideLists", spec := "guideLists", apart := false }
def GuideListsSaid : Prop := guideListsRow.holds Try.pinned (OpenSpec.ofChange guideListsSpec)

/-- ITS FALSE NEIGHBOUR: 'it returns false'. Refute it at one input. -/
def guideListsWrong : ChangeSpec := { name := "guideLists", fn := fun _ => fun
  | [d1, d2] => { results := [.lit (.bool false)], args := [d1, d2] }
  | _ => none }
def GuideListsWrongFalsely : Prop := guideListsRow.holds Try.pinned (OpenSpec.ofChange guideListsWrong)

/-- 'overspilllaw42.GuideRows': WHATEVER THE INPUT: true; the input reads as it did. -/
def guideRowsSpec : ChangeSpec := { name := "guideRows", fn := fun _ => fun
  | [d1, d2, d3] => { results := [.lit (.bool true)], args := [d1, d2, d3] }
  | _ => none }
def guideRowsRow : OpenClaim := { program := "ytflicgngejnajaa", sum := "9c38f022026bc574d1562d82cc58d4a39dcee27c86a6926caa7f8fdf4627e473", func := "overspill/overspilllaw42.GuideRows", spec := "guideRows", apart := false }
def GuideRowsSaid : Prop := guideRowsRow.holds Try.pinned (OpenSpec.ofChange guideRowsSpec)

/-- ITS FALSE NEIGHBOUR: 'it returns false'. Refute it at one input. -/
def guideRowsWrong : ChangeSpec := { name := "guideRows", fn := fun _ => fun
  | [d1, d2, d3] => { results := [.lit (.bool false)], args := [d1, d2, d3] }
  | _ => none }
def GuideRowsWrongFalsely : Prop := guideRowsRow.holds Try.pinned (OpenSpec.ofChange guideRowsWrong)

/-- 'overspilllaw42.GuideRises': WHATEVER THE INPUT: true; the input reads as it did. -/
def guideRisesSpec : ChangeSpec := { name := "guideRises", fn := fun _ => fun
  | [d1, d2, d3] => { results := [.lit (.bool true)], args := [d1, d2, d3] }
  | _ => none }
def guideRisesRow : OpenClaim := { program := "ytflicgngejnajaa", sum := "9c38f022026bc574d1562d82cc58d4a39dcee27c86a6926caa7f8fdf4627e473", func := "overspill/overspilllaw42.GuideRises", spec := "guideRises", apart := false }
def GuideRisesSaid : Prop := guideRisesRow.holds Try.pinned (OpenSpec.ofChange guideRisesSpec)

/-- ITS FALSE NEIGHBOUR: 'it returns false'. Refute it at one input. -/
def guideRisesWrong : ChangeSpec := { name := "guideRises", fn := fun _ => fun
  | [d1, d2, d3] => { results := [.lit (.bool false)], args := [d1, d2, d3] }
  | _ => none }
def GuideRisesWrongFalsely : Prop := guideRisesRow.holds Try.pinned (OpenSpec.ofChange guideRisesWrong)

/- THE SECOND FORM. 'bulk': how many values and letters a reading holds, each counted each time it is reached (what is shared counts as often as it is met; a slice's spare places count too). A statement '..UptoSaid' is the law's where the arguments, and the package variables that the reading takes, are together of bulk at most 1048576: NARROWER than '..Said'. Prove '..Said' where nothing that the law and all that it calls make is longer than what came in: it says more and counts as full. Else prove '..UptoSaid'. A law counts once. -/
mutual
def uptoBulk {H : Type} : DataW H → Nat
  | .lit (.string bytes) => bytes.length + 1
  | .lit _ => 1
  | .nil => 1
  | .ptr d => uptoBulk d + 1
  | .slice elems spare => uptoBulkAll elems + uptoBulkAll spare + 1
  | .agg parts => uptoBulkAll parts + 1
  | .iface _ d => uptoBulk d + 1
  | .map entries => uptoBulkEntries entries + 1
  | .held _ => 1
def uptoBulkAll {H : Type} : List (DataW H) → Nat
  | [] => 0
  | d :: r => uptoBulk d + uptoBulkAll r
def uptoBulkEntries {H : Type} : List (Lit × DataW H) → Nat
  | [] => 0
  | x :: r => uptoBulkEntry x + uptoBulkEntries r
def uptoBulkEntry {H : Type} : Lit × DataW H → Nat
  | (.string bytes, d) => bytes.length + uptoBulk d + 1
  | (_, d) => uptoBulk d + 1
 end
def uptoSmall : (H : Type) → List (DataW H) → Bool := fun _ ds => decide (uptoBulkAll ds ≤ 1048576)
def OpenSpec.upto (s : _root_.Go.ChangeSpec) : _root_.Go.OpenSpec := { _root_.Go.OpenSpec.ofChange s with cond := some uptoSmall }

/-- 'overspilllaw42.GuideLists', WHERE WHAT IT READS IS OF BULK AT MOST 1048576: true; the input reads as it did. -/
def guideListsUptoRow : OpenClaim := { program := "ytflicgngejnajaa", sum := "9c38f022026bc574d1562d82cc58d4a39dcee27c86a6926caa7f8fdf4627e473", func := "overspill/overspilllaw42.GuideLists", spec := "guideLists", apart := false, narrowed := true }
def GuideListsUptoSaid : Prop := guideListsUptoRow.holds Try.pinned (OpenSpec.upto guideListsSpec)

/-- 'overspilllaw42.GuideRows', WHERE WHAT IT READS IS OF BULK AT MOST 1048576: true; the input reads as it did. -/
def guideRowsUptoRow : OpenClaim := { program := "ytflicgngejnajaa", sum := "9c38f022026bc574d1562d82cc58d4a39dcee27c86a6926caa7f8fdf4627e473", func := "overspill/overspilllaw42.GuideRows", spec := "guideRows", apart := false, narrowed := true }
def GuideRowsUptoSaid : Prop := guideRowsUptoRow.holds Try.pinned (OpenSpec.upto guideRowsSpec)

/-- 'overspilllaw42.GuideRises', WHERE WHAT IT READS IS OF BULK AT MOST 1048576: true; the input reads as it did. -/
def guideRisesUptoRow : OpenClaim := { program := "ytflicgngejnajaa", sum := "9c38f022026bc574d1562d82cc58d4a39dcee27c86a6926caa7f8fdf4627e473", func := "overspill/overspilllaw42.GuideRises", spec := "guideRises", apart := false, narrowed := true }
def GuideRisesUptoSaid : Prop := guideRisesUptoRow.holds Try.pinned (OpenSpec.upto guideRisesSpec)

end Rows
end Go.Proofs.Ytflicgngejnajaa
