/-
  No cell of these rows narrows 'for every input' (looked for: loops, veiled, ifaces, maps, wideKeys, modest, calm, conditions, laid).
  DERIVED. THE GIVEN ROWS OF THIS SEAT. 6 by the template 'for every input the law returns true; each argument reads behind the call as it read before'; 0 by the template 'total and deterministic' (their statements: YthpohaafphaidaaTotals.lean).
  GIVEN WITH THE SEED: the statements are not yours to turn. If you find one false, say at which input.
  Laid BY PROGRAM, IN A SANDBOX (cutbox-rows.mjs): the forced cells as the released guide's own fill.sh prints them over the translation 631b21ce9a76dbf1… (all of the seat's roots in one cut). By AI agents, Wed Nov 11 2026. No macro, syntax, notation, axiom, sorry.
-/
import Derived.Test.YthpohaafphaidaaChecked
import GoSem.Claim
import GoSem.ClaimJoined
import GoSem.ClaimMapViews
import Derived.JoinedTies
import Derived.KernelRfl
namespace Go.Proofs.Ythpohaafphaidaa
/- THE CELL 'sum', in the pinned program and in every row, IS THE sha256 OF THE DUMP (.gsa) THAT YthpohaafphaidaaProg.lean LOADS. Nothing in Lean hashes anything: it is a label: what it is worth is what the hold of that sum in a sandbox is worth. -/
noncomputable def Try.pinned : Pinned := { name := "ythpohaafphaidaa", sum := "631b21ce9a76dbf187b07eb729b367bbd06b99231d74a33afeedcae50fa43b58", checked := Try.checked }
namespace Rows
def none {H : Type} : Left H := { results := [], args := [] }

/-- 'patchbaylaw2.PktSums': WHATEVER THE INPUT: true; the input reads as it did. -/
def pktSumsSpec : ChangeSpec := { name := "pktSums", fn := fun _ => fun
  | [d1, d2, d3, d4] => { results := [.lit (.bool true)], args := [d1, d2, d3, d4] }
  | _ => none }
def pktSumsRow : OpenClaim := { program := "ythpohaafphaidaa", sum := "631b21ce9a76dbf187b07eb729b367bbd06b99231d74a33afeedcae50fa43b58", func := "patchbay/patchbaylaw2.PktSums", spec := "pktSums", unfollowed := true, recurses := true, apart := false }
def PktSumsSaid : Prop := pktSumsRow.holds Try.pinned (OpenSpec.ofChange pktSumsSpec)

/-- ITS FALSE NEIGHBOUR: 'it returns false'. Refute it at one input. -/
def pktSumsWrong : ChangeSpec := { name := "pktSums", fn := fun _ => fun
  | [d1, d2, d3, d4] => { results := [.lit (.bool false)], args := [d1, d2, d3, d4] }
  | _ => none }
def PktSumsWrongFalsely : Prop := pktSumsRow.holds Try.pinned (OpenSpec.ofChange pktSumsWrong)

/-- 'patchbaylaw2.CutSays': WHATEVER THE INPUT: true; the input reads as it did. -/
def cutSaysSpec : ChangeSpec := { name := "cutSays", fn := fun _ => fun
  | [d1, d2] => { results := [.lit (.bool true)], args := [d1, d2] }
  | _ => none }
def cutSaysRow : OpenClaim := { program := "ythpohaafphaidaa", sum := "631b21ce9a76dbf187b07eb729b367bbd06b99231d74a33afeedcae50fa43b58", func := "patchbay/patchbaylaw2.CutSays", spec := "cutSays", apart := false }
def CutSaysSaid : Prop := cutSaysRow.holds Try.pinned (OpenSpec.ofChange cutSaysSpec)

/-- ITS FALSE NEIGHBOUR: 'it returns false'. Refute it at one input. -/
def cutSaysWrong : ChangeSpec := { name := "cutSays", fn := fun _ => fun
  | [d1, d2] => { results := [.lit (.bool false)], args := [d1, d2] }
  | _ => none }
def CutSaysWrongFalsely : Prop := cutSaysRow.holds Try.pinned (OpenSpec.ofChange cutSaysWrong)

/-- 'patchbaylaw2.PktEncodes': WHATEVER THE INPUT: true; the input reads as it did. -/
def pktEncodesSpec : ChangeSpec := { name := "pktEncodes", fn := fun _ => fun
  | [d] => { results := [.lit (.bool true)], args := [d] }
  | _ => none }
def pktEncodesRow : OpenClaim := { program := "ythpohaafphaidaa", sum := "631b21ce9a76dbf187b07eb729b367bbd06b99231d74a33afeedcae50fa43b58", func := "patchbay/patchbaylaw2.PktEncodes", spec := "pktEncodes", apart := false }
def PktEncodesSaid : Prop := pktEncodesRow.holds Try.pinned (OpenSpec.ofChange pktEncodesSpec)

/-- ITS FALSE NEIGHBOUR: 'it returns false'. Refute it at one input. -/
def pktEncodesWrong : ChangeSpec := { name := "pktEncodes", fn := fun _ => fun
  | [d] => { results := [.lit (.bool false)], args := [d] }
  | _ => none }
def PktEncodesWrongFalsely : Prop := pktEncodesRow.holds Try.pinned (OpenSpec.ofChange pktEncodesWrong)

/-- 'patchbaylaw2.FaultTells': WHATEVER THE INPUT: true; the input reads as it did. -/
def faultTellsSpec : ChangeSpec := { name := "faultTells", fn := fun _ => fun
  | [d1, d2, d3, d4, d5, d6] => { results := [.lit (.bool true)], args := [d1, d2, d3, d4, d5, d6] }
  | _ => none }
def faultTellsRow : OpenClaim := { program := "ythpohaafphaidaa", sum := "631b21ce9a76dbf187b07eb729b367bbd06b99231d74a33afeedcae50fa43b58", func := "patchbay/patchbaylaw2.FaultTells", spec := "faultTells", apart := false }
def FaultTellsSaid : Prop := faultTellsRow.holds Try.pinned (OpenSpec.ofChange faultTellsSpec)

/-- ITS FALSE NEIGHBOUR: 'it returns false'. Refute it at one input. -/
def faultTellsWrong : ChangeSpec := { name := "faultTells", fn := fun _ => fun
  | [d1, d2, d3, d4, d5, d6] => { results := [.lit (.bool false)], args := [d1, d2, d3, d4, d5, d6] }
  | _ => none }
def FaultTellsWrongFalsely : Prop := faultTellsRow.holds Try.pinned (OpenSpec.ofChange faultTellsWrong)

/-- 'patchbaylaw2.PktDecodes': WHATEVER THE INPUT: true; the input reads as it did. -/
def pktDecodesSpec : ChangeSpec := { name := "pktDecodes", fn := fun _ => fun
  | [d] => { results := [.lit (.bool true)], args := [d] }
  | _ => none }
def pktDecodesRow : OpenClaim := { program := "ythpohaafphaidaa", sum := "631b21ce9a76dbf187b07eb729b367bbd06b99231d74a33afeedcae50fa43b58", func := "patchbay/patchbaylaw2.PktDecodes", spec := "pktDecodes", apart := false }
def PktDecodesSaid : Prop := pktDecodesRow.holds Try.pinned (OpenSpec.ofChange pktDecodesSpec)

/-- ITS FALSE NEIGHBOUR: 'it returns false'. Refute it at one input. -/
def pktDecodesWrong : ChangeSpec := { name := "pktDecodes", fn := fun _ => fun
  | [d] => { results := [.lit (.bool false)], args := [d] }
  | _ => none }
def PktDecodesWrongFalsely : Prop := pktDecodesRow.holds Try.pinned (OpenSpec.ofChange pktDecodesWrong)

/-- 'patchbaylaw2.FaultReads': WHATEVER THE INPUT: true; the input reads as it did. -/
def faultReadsSpec : ChangeSpec := { name := "faultReads", fn := fun _ => fun
  | [d] => { results := [.lit (.bool true)], args := [d] }
  | _ => none }
def faultReadsRow : OpenClaim := { program := "ythpohaafphaidaa", sum := "631b21ce9a76dbf187b07eb729b367bbd06b99231d74a33afeedcae50fa43b58", func := "patchbay/patchbaylaw2.FaultReads", spec := "faultReads", apart := false }
def FaultReadsSaid : Prop := faultReadsRow.holds Try.pinned (OpenSpec.ofChange faultReadsSpec)

/-- ITS FALSE NEIGHBOUR: 'it returns false'. Refute it at one input. -/
def faultReadsWrong : ChangeSpec := { name := "faultReads", fn := fun _ => fun
  | [d] => { results := [.lit (.bool false)], args := [d] }
  | _ => none }
def FaultReadsWrongFalsely : Prop := faultReadsRow.holds Try.pinned (OpenSpec.ofChange faultReadsWrong)

/- THE SECOND FORM. 'bulk': how many values and letters a reading holds, each counted each time it is reached (what is shared counts as often as it is met; a slice's spare places count too). A statement '..UptoSaid' is the law's where the arguments, and the package variables that the reading takes, are together of bulk at most 1048576: NARROWER than '..Said'. Prove '..Said' where nothing that the law and all that it calls make is longer than what came in: it says more and counts as full. Else prove '..UptoSaid'. A law counts once. -/
mutual
def uptoBulk {H : Type} : DataW H → Nat
  | .lit (.string bytes) => bytes.length + 1
  | .lit _ => 1
  | .nil => 1
  | .ptr d => uptoBulk d + 1
  | .slice elems spare => uptoBulkAll elems + uptoBulkAll spare + 1
  | .agg parts => uptoBulkAll parts + 1
  | .iface _ d => uptoBulk d + 1
  | .map entries => uptoBulkEntries entries + 1
  | .held _ => 1
def uptoBulkAll {H : Type} : List (DataW H) → Nat
  | [] => 0
  | d :: r => uptoBulk d + uptoBulkAll r
def uptoBulkEntries {H : Type} : List (Lit × DataW H) → Nat
  | [] => 0
  | x :: r => uptoBulkEntry x + uptoBulkEntries r
def uptoBulkEntry {H : Type} : Lit × DataW H → Nat
  | (.string bytes, d) => bytes.length + uptoBulk d + 1
  | (_, d) => uptoBulk d + 1
 end
def uptoSmall : (H : Type) → List (DataW H) → Bool := fun _ ds => decide (uptoBulkAll ds ≤ 1048576)
def OpenSpec.upto (s : _root_.Go.ChangeSpec) : _root_.Go.OpenSpec := { _root_.Go.OpenSpec.ofChange s with cond := some uptoSmall }

/-- 'patchbaylaw2.PktSums', WHERE WHAT IT READS IS OF BULK AT MOST 1048576: true; the input reads as it did. -/
def pktSumsUptoRow : OpenClaim := { program := "ythpohaafphaidaa", sum := "631b21ce9a76dbf187b07eb729b367bbd06b99231d74a33afeedcae50fa43b58", func := "patchbay/patchbaylaw2.PktSums", spec := "pktSums", unfollowed := true, recurses := true, apart := false, narrowed := true }
def PktSumsUptoSaid : Prop := pktSumsUptoRow.holds Try.pinned (OpenSpec.upto pktSumsSpec)

/-- 'patchbaylaw2.CutSays', WHERE WHAT IT READS IS OF BULK AT MOST 1048576: true; the input reads as it did. -/
def cutSaysUptoRow : OpenClaim := { program := "ythpohaafphaidaa", sum := "631b21ce9a76dbf187b07eb729b367bbd06b99231d74a33afeedcae50fa43b58", func := "patchbay/patchbaylaw2.CutSays", spec := "cutSays", apart := false, narrowed := true }
def CutSaysUptoSaid : Prop := cutSaysUptoRow.holds Try.pinned (OpenSpec.upto cutSaysSpec)

/-- 'patchbaylaw2.PktEncodes', WHERE WHAT IT READS IS OF BULK AT MOST 1048576: true; the input reads as it did. -/
def pktEncodesUptoRow : OpenClaim := { program := "ythpohaafphaidaa", sum := "631b21ce9a76dbf187b07eb729b367bbd06b99231d74a33afeedcae50fa43b58", func := "patchbay/patchbaylaw2.PktEncodes", spec := "pktEncodes", apart := false, narrowed := true }
def PktEncodesUptoSaid : Prop := pktEncodesUptoRow.holds Try.pinned (OpenSpec.upto pktEncodesSpec)

/-- 'patchbaylaw2.FaultTells', WHERE WHAT IT READS IS OF BULK AT MOST 1048576: true; the input reads as it did. -/
def faultTellsUptoRow : OpenClaim := { program := "ythpohaafphaidaa", sum := "631b21ce9a76dbf187b07eb729b367bbd06b99231d74a33afeedcae50fa43b58", func := "patchbay/patchbaylaw2.FaultTells", spec := "faultTells", apart := false, narrowed := true }
def FaultTellsUptoSaid : Prop := faultTellsUptoRow.holds Try.pinned (OpenSpec.upto faultTellsSpec)

/-- 'patchbaylaw2.PktDecodes', WHERE WHAT IT READS IS OF BULK AT MOST 1048576: true; the input reads as it did. -/
def pktDecodesUptoRow : OpenClaim := { program := "ythpohaafphaidaa", sum := "631b21ce9a76dbf187b07eb729b367bbd06b99231d74a33afeedcae50fa43b58", func := "patchbay/patchbaylaw2.PktDecodes", spec := "pktDecodes", apart := false, narrowed := true }
def PktDecodesUptoSaid : Prop := pktDecodesUptoRow.holds Try.pinned (OpenSpec.upto pktDecodesSpec)

/-- 'patchbaylaw2.FaultReads', WHERE WHAT IT READS IS OF BULK AT MOST 1048576: true; the input reads as it did. -/
def faultReadsUptoRow : OpenClaim := { program := "ythpohaafphaidaa", sum := "631b21ce9a76dbf187b07eb729b367bbd06b99231d74a33afeedcae50fa43b58", func := "patchbay/patchbaylaw2.FaultReads", spec := "faultReads", apart := false, narrowed := true }
def FaultReadsUptoSaid : Prop := faultReadsUptoRow.holds Try.pinned (OpenSpec.upto faultReadsSpec)

end Rows
end Go.Proofs.Ythpohaafphaidaa
