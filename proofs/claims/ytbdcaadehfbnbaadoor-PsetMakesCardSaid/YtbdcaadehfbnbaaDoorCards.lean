/-
  DERIVED. GIVEN WITH THE SEED: THE CARDS: each row of YtbdcaadehfbnbaaDoorRows.lean that lists a variable, with what it lists TIED to the program's text (the seventh form; the later family's looks); each row that meets fmt, with fmt's text TOLD by the authors' own Lean function (tested against real Go, not proved from fmt's source: count such statements apart). THE CARD IS WHAT COUNTS. Prove the row's statement (the work); the ties are given (YtbdcaadehfbnbaaDoorTie.lean); close each card by the builder's one call (the guide's Derived/Test/ToyasCard.lean, 'card_holds'). Laid BY PROGRAM, IN A SANDBOX (cutbox-door.mjs). By AI agents, Wed Nov 11 2026. No macro, syntax, notation, axiom, sorry.
-/
import Derived.Test.YtbdcaadehfbnbaaDoorRows
import GoSem.ClaimSeven
namespace Go.Proofs.YtbdcaadehfbnbaaDoor
namespace Rows

/-- THE TIED CARD OF 'patchbaylaw2.AddrHolds'. -/
def addrHoldsCard : Claim7 := { stood := { row := addrHoldsRow, standIns := [], harness := (true, "430b3ed0d4b62ea8f16051ce3310d3f3935a7cfcc00c65fb6c680f0a82dbdf94"), looks := true }, kinds := [], alts := [], laidByText := true, laidKinds := [.data, .pinned], laidTests := true, laidLooks := .later }
def AddrHoldsCardSaid : Prop := Claim7.holds Tryd.pinned (.plain (OpenSpec.ofChange addrHoldsSpec)) addrHoldsCard

/-- THE TIED CARD OF 'patchbaylaw2.PsetMakes'. -/
def psetMakesCard : Claim7 := { stood := { row := psetMakesRow, standIns := [], harness := (true, "430b3ed0d4b62ea8f16051ce3310d3f3935a7cfcc00c65fb6c680f0a82dbdf94"), looks := true }, kinds := [], alts := [], laidByText := true, laidKinds := [.data], laidTests := true, laidLooks := .later }
def PsetMakesCardSaid : Prop := Claim7.holds Tryd.pinned (.plain (OpenSpec.ofChange psetMakesSpec)) psetMakesCard

/-- THE TIED CARD OF 'patchbaylaw2.PsetJoins'. -/
def psetJoinsCard : Claim7 := { stood := { row := psetJoinsRow, standIns := [], harness := (true, "430b3ed0d4b62ea8f16051ce3310d3f3935a7cfcc00c65fb6c680f0a82dbdf94"), looks := true }, kinds := [], alts := [], laidByText := true, laidKinds := [.data], laidTests := true, laidLooks := .later }
def PsetJoinsCardSaid : Prop := Claim7.holds Tryd.pinned (.plain (OpenSpec.ofChange psetJoinsSpec)) psetJoinsCard

/-- THE TIED CARD OF 'patchbaylaw2.AddrReads'. -/
def addrReadsCard : Claim7 := { stood := { row := addrReadsRow, standIns := [], harness := (true, "430b3ed0d4b62ea8f16051ce3310d3f3935a7cfcc00c65fb6c680f0a82dbdf94"), looks := true }, kinds := [], alts := [], laidByText := true, laidKinds := [.data, .data, .data, .data, .sentinel, .sentinel, .pinned], laidTests := true, laidLooks := .later }
def AddrReadsCardSaid : Prop := Claim7.holds Tryd.pinned (.plain (OpenSpec.ofChange addrReadsSpec)) addrReadsCard

/-- THE TIED CARD OF 'patchbaylaw2.AddrWrites'. -/
def addrWritesCard : Claim7 := { stood := { row := addrWritesRow, standIns := [], harness := (true, "430b3ed0d4b62ea8f16051ce3310d3f3935a7cfcc00c65fb6c680f0a82dbdf94"), looks := true }, kinds := [], alts := [], laidByText := true, laidKinds := [.data, .data, .data, .data, .sentinel, .sentinel, .pinned], laidTests := true, laidLooks := .later }
def AddrWritesCardSaid : Prop := Claim7.holds Tryd.pinned (.plain (OpenSpec.ofChange addrWritesSpec)) addrWritesCard

/-- THE SECOND FORM's CARD OF 'patchbaylaw2.AddrHolds'. -/
def addrHoldsUptoCard : Claim7 := { stood := { row := addrHoldsUptoRow, standIns := [], harness := (true, "430b3ed0d4b62ea8f16051ce3310d3f3935a7cfcc00c65fb6c680f0a82dbdf94"), looks := true }, kinds := [], alts := [], laidByText := true, laidKinds := [.data, .pinned], laidTests := true, laidLooks := .later }
def AddrHoldsUptoCardSaid : Prop := Claim7.holds Tryd.pinned (.plain (OpenSpec.upto addrHoldsSpec)) addrHoldsUptoCard

/-- THE SECOND FORM's CARD OF 'patchbaylaw2.PsetMakes'. -/
def psetMakesUptoCard : Claim7 := { stood := { row := psetMakesUptoRow, standIns := [], harness := (true, "430b3ed0d4b62ea8f16051ce3310d3f3935a7cfcc00c65fb6c680f0a82dbdf94"), looks := true }, kinds := [], alts := [], laidByText := true, laidKinds := [.data], laidTests := true, laidLooks := .later }
def PsetMakesUptoCardSaid : Prop := Claim7.holds Tryd.pinned (.plain (OpenSpec.upto psetMakesSpec)) psetMakesUptoCard

/-- THE SECOND FORM's CARD OF 'patchbaylaw2.PsetJoins'. -/
def psetJoinsUptoCard : Claim7 := { stood := { row := psetJoinsUptoRow, standIns := [], harness := (true, "430b3ed0d4b62ea8f16051ce3310d3f3935a7cfcc00c65fb6c680f0a82dbdf94"), looks := true }, kinds := [], alts := [], laidByText := true, laidKinds := [.data], laidTests := true, laidLooks := .later }
def PsetJoinsUptoCardSaid : Prop := Claim7.holds Tryd.pinned (.plain (OpenSpec.upto psetJoinsSpec)) psetJoinsUptoCard

/-- THE SECOND FORM's CARD OF 'patchbaylaw2.AddrReads'. -/
def addrReadsUptoCard : Claim7 := { stood := { row := addrReadsUptoRow, standIns := [], harness := (true, "430b3ed0d4b62ea8f16051ce3310d3f3935a7cfcc00c65fb6c680f0a82dbdf94"), looks := true }, kinds := [], alts := [], laidByText := true, laidKinds := [.data, .data, .data, .data, .sentinel, .sentinel, .pinned], laidTests := true, laidLooks := .later }
def AddrReadsUptoCardSaid : Prop := Claim7.holds Tryd.pinned (.plain (OpenSpec.upto addrReadsSpec)) addrReadsUptoCard

/-- THE SECOND FORM's CARD OF 'patchbaylaw2.AddrWrites'. -/
def addrWritesUptoCard : Claim7 := { stood := { row := addrWritesUptoRow, standIns := [], harness := (true, "430b3ed0d4b62ea8f16051ce3310d3f3935a7cfcc00c65fb6c680f0a82dbdf94"), looks := true }, kinds := [], alts := [], laidByText := true, laidKinds := [.data, .data, .data, .data, .sentinel, .sentinel, .pinned], laidTests := true, laidLooks := .later }
def AddrWritesUptoCardSaid : Prop := Claim7.holds Tryd.pinned (.plain (OpenSpec.upto addrWritesSpec)) addrWritesUptoCard
end Rows
end Go.Proofs.YtbdcaadehfbnbaaDoor
