/-
  No cell of these rows narrows 'for every input' (looked for: loops, veiled, ifaces, maps, wideKeys, modest, calm, conditions, laid).
  DERIVED. THE GIVEN ROWS OF THIS SEAT. 3 by the template 'for every input the law returns true; each argument reads behind the call as it read before'; 0 by the template 'total and deterministic' (their statements: YtbdcaadehfbnbaaTotals.lean).
  GIVEN WITH THE SEED: the statements are not yours to turn. If you find one false, say at which input.
  Laid BY PROGRAM, IN A SANDBOX (cutbox-rows.mjs): the forced cells as the released guide's own fill.sh prints them over the translation 37f04e8038709cd4… (all of the seat's roots in one cut). By AI agents, Wed Nov 11 2026. No macro, syntax, notation, axiom, sorry.
-/
import Derived.Test.YtbdcaadehfbnbaaChecked
import GoSem.Claim
import GoSem.ClaimJoined
import GoSem.ClaimMapViews
import Derived.JoinedTies
import Derived.KernelRfl
namespace Go.Proofs.Ytbdcaadehfbnbaa
/- THE CELL 'sum', in the pinned program and in every row, IS THE sha256 OF THE DUMP (.gsa) THAT YtbdcaadehfbnbaaProg.lean LOADS. Nothing in Lean hashes anything: it is a label: what it is worth is what the hold of that sum in a sandbox is worth. -/
noncomputable def Try.pinned : Pinned := { name := "ytbdcaadehfbnbaa", sum := "37f04e8038709cd4381d18261a173410fe10a993837aaad70035dce239b3fd76", checked := Try.checked }
namespace Rows
def none {H : Type} : Left H := { results := [], args := [] }

/-- 'patchbaylaw2.AdvEncodes': WHATEVER THE INPUT: true; the input reads as it did. -/
def advEncodesSpec : ChangeSpec := { name := "advEncodes", fn := fun _ => fun
  | [d1, d2] => { results := [.lit (.bool true)], args := [d1, d2] }
  | _ => none }
def advEncodesRow : OpenClaim := { program := "ytbdcaadehfbnbaa", sum := "37f04e8038709cd4381d18261a173410fe10a993837aaad70035dce239b3fd76", func := "patchbay/patchbaylaw2.AdvEncodes", spec := "advEncodes", unfollowed := true, recurses := true, apart := false }
def AdvEncodesSaid : Prop := advEncodesRow.holds Try.pinned (OpenSpec.ofChange advEncodesSpec)

/-- ITS FALSE NEIGHBOUR: 'it returns false'. Refute it at one input. -/
def advEncodesWrong : ChangeSpec := { name := "advEncodes", fn := fun _ => fun
  | [d1, d2] => { results := [.lit (.bool false)], args := [d1, d2] }
  | _ => none }
def AdvEncodesWrongFalsely : Prop := advEncodesRow.holds Try.pinned (OpenSpec.ofChange advEncodesWrong)

/-- 'patchbaylaw2.TrieSays': WHATEVER THE INPUT: true; the input reads as it did. -/
def trieSaysSpec : ChangeSpec := { name := "trieSays", fn := fun _ => fun
  | [d1, d2] => { results := [.lit (.bool true)], args := [d1, d2] }
  | _ => none }
def trieSaysRow : OpenClaim := { program := "ytbdcaadehfbnbaa", sum := "37f04e8038709cd4381d18261a173410fe10a993837aaad70035dce239b3fd76", func := "patchbay/patchbaylaw2.TrieSays", spec := "trieSays", recurses := true, apart := false }
def TrieSaysSaid : Prop := trieSaysRow.holds Try.pinned (OpenSpec.ofChange trieSaysSpec)

/-- ITS FALSE NEIGHBOUR: 'it returns false'. Refute it at one input. -/
def trieSaysWrong : ChangeSpec := { name := "trieSays", fn := fun _ => fun
  | [d1, d2] => { results := [.lit (.bool false)], args := [d1, d2] }
  | _ => none }
def TrieSaysWrongFalsely : Prop := trieSaysRow.holds Try.pinned (OpenSpec.ofChange trieSaysWrong)

/-- 'patchbaylaw2.ShortSays': WHATEVER THE INPUT: true; the input reads as it did. -/
def shortSaysSpec : ChangeSpec := { name := "shortSays", fn := fun _ => fun
  | [d1, d2] => { results := [.lit (.bool true)], args := [d1, d2] }
  | _ => none }
def shortSaysRow : OpenClaim := { program := "ytbdcaadehfbnbaa", sum := "37f04e8038709cd4381d18261a173410fe10a993837aaad70035dce239b3fd76", func := "patchbay/patchbaylaw2.ShortSays", spec := "shortSays", unfollowed := true, recurses := true, apart := false }
def ShortSaysSaid : Prop := shortSaysRow.holds Try.pinned (OpenSpec.ofChange shortSaysSpec)

/-- ITS FALSE NEIGHBOUR: 'it returns false'. Refute it at one input. -/
def shortSaysWrong : ChangeSpec := { name := "shortSays", fn := fun _ => fun
  | [d1, d2] => { results := [.lit (.bool false)], args := [d1, d2] }
  | _ => none }
def ShortSaysWrongFalsely : Prop := shortSaysRow.holds Try.pinned (OpenSpec.ofChange shortSaysWrong)

/- THE SECOND FORM. 'bulk': how many values and letters a reading holds, each counted each time it is reached (what is shared counts as often as it is met; a slice's spare places count too). A statement '..UptoSaid' is the law's where the arguments, and the package variables that the reading takes, are together of bulk at most 1048576: NARROWER than '..Said'. Prove '..Said' where nothing that the law and all that it calls make is longer than what came in: it says more and counts as full. Else prove '..UptoSaid'. A law counts once. -/
mutual
def uptoBulk {H : Type} : DataW H → Nat
  | .lit (.string bytes) => bytes.length + 1
  | .lit _ => 1
  | .nil => 1
  | .ptr d => uptoBulk d + 1
  | .slice elems spare => uptoBulkAll elems + uptoBulkAll spare + 1
  | .agg parts => uptoBulkAll parts + 1
  | .iface _ d => uptoBulk d + 1
  | .map entries => uptoBulkEntries entries + 1
  | .held _ => 1
def uptoBulkAll {H : Type} : List (DataW H) → Nat
  | [] => 0
  | d :: r => uptoBulk d + uptoBulkAll r
def uptoBulkEntries {H : Type} : List (Lit × DataW H) → Nat
  | [] => 0
  | x :: r => uptoBulkEntry x + uptoBulkEntries r
def uptoBulkEntry {H : Type} : Lit × DataW H → Nat
  | (.string bytes, d) => bytes.length + uptoBulk d + 1
  | (_, d) => uptoBulk d + 1
 end
def uptoSmall : (H : Type) → List (DataW H) → Bool := fun _ ds => decide (uptoBulkAll ds ≤ 1048576)
def OpenSpec.upto (s : _root_.Go.ChangeSpec) : _root_.Go.OpenSpec := { _root_.Go.OpenSpec.ofChange s with cond := some uptoSmall }

/-- 'patchbaylaw2.AdvEncodes', WHERE WHAT IT READS IS OF BULK AT MOST 1048576: true; the input reads as it did. -/
def advEncodesUptoRow : OpenClaim := { program := "ytbdcaadehfbnbaa", sum := "37f04e8038709cd4381d18261a173410fe10a993837aaad70035dce239b3fd76", func := "patchbay/patchbaylaw2.AdvEncodes", spec := "advEncodes", unfollowed := true, recurses := true, apart := false, narrowed := true }
def AdvEncodesUptoSaid : Prop := advEncodesUptoRow.holds Try.pinned (OpenSpec.upto advEncodesSpec)

/-- 'patchbaylaw2.TrieSays', WHERE WHAT IT READS IS OF BULK AT MOST 1048576: true; the input reads as it did. -/
def trieSaysUptoRow : OpenClaim := { program := "ytbdcaadehfbnbaa", sum := "37f04e8038709cd4381d18261a173410fe10a993837aaad70035dce239b3fd76", func := "patchbay/patchbaylaw2.TrieSays", spec := "trieSays", recurses := true, apart := false, narrowed := true }
def TrieSaysUptoSaid : Prop := trieSaysUptoRow.holds Try.pinned (OpenSpec.upto trieSaysSpec)

/-- 'patchbaylaw2.ShortSays', WHERE WHAT IT READS IS OF BULK AT MOST 1048576: true; the input reads as it did. -/
def shortSaysUptoRow : OpenClaim := { program := "ytbdcaadehfbnbaa", sum := "37f04e8038709cd4381d18261a173410fe10a993837aaad70035dce239b3fd76", func := "patchbay/patchbaylaw2.ShortSays", spec := "shortSays", unfollowed := true, recurses := true, apart := false, narrowed := true }
def ShortSaysUptoSaid : Prop := shortSaysUptoRow.holds Try.pinned (OpenSpec.upto shortSaysSpec)

end Rows
end Go.Proofs.Ytbdcaadehfbnbaa
