/-
  DERIVED. GIVEN WITH THE SEED: THE CARDS: each row of YtdehjgpdcdjhjaaDoorRows.lean that lists a variable, with what it lists TIED to the program's text (the seventh form; the later family's looks); each row that meets fmt, with fmt's text TOLD by the authors' own Lean function (tested against real Go, not proved from fmt's source: count such statements apart). THE CARD IS WHAT COUNTS. Prove the row's statement (the work); the ties are given (YtdehjgpdcdjhjaaDoorTie.lean); close each card by the builder's one call (the guide's Derived/Test/ToyasCard.lean, 'card_holds'). Laid BY PROGRAM, IN A SANDBOX (cutbox-door.mjs). By AI agents, Wed Nov 11 2026. No macro, syntax, notation, axiom, sorry.
-/
import Derived.Test.YtdehjgpdcdjhjaaDoorRows
import GoSem.ClaimSeven
namespace Go.Proofs.YtdehjgpdcdjhjaaDoor
namespace Rows

/-- THE TIED CARD OF 'taluslaw14.SchemaNames'. -/
def schemaNamesCard : Claim7 := { stood := { row := schemaNamesRow, standIns := [], harness := (true, "ae9d99a6e7c5c46d31f7c8e9ee50556ce5bf8abe91aac04f962477cbc696ef97"), looks := false }, kinds := [], alts := [], laidByText := true, laidKinds := [.data, .pinned], laidTests := true, laidLooks := .later }
def SchemaNamesCardSaid : Prop := Claim7.holds Tryd.pinned (.plain (OpenSpec.ofChange schemaNamesSpec)) schemaNamesCard

/-- THE TIED CARD OF 'taluslaw14.SchemaTables'. -/
def schemaTablesCard : Claim7 := { stood := { row := schemaTablesRow, standIns := [], harness := (true, "ae9d99a6e7c5c46d31f7c8e9ee50556ce5bf8abe91aac04f962477cbc696ef97"), looks := false }, kinds := [], alts := [], laidByText := true, laidKinds := [.data, .pinned], laidTests := true, laidLooks := .later }
def SchemaTablesCardSaid : Prop := Claim7.holds Tryd.pinned (.plain (OpenSpec.ofChange schemaTablesSpec)) schemaTablesCard

/-- THE TIED CARD OF 'taluslaw14.SchemaWords'. -/
def schemaWordsCard : Claim7 := { stood := { row := schemaWordsRow, standIns := [], harness := (true, "ae9d99a6e7c5c46d31f7c8e9ee50556ce5bf8abe91aac04f962477cbc696ef97"), looks := false }, kinds := [], alts := [], laidByText := true, laidKinds := [.data, .pinned], laidTests := true, laidLooks := .later }
def SchemaWordsCardSaid : Prop := Claim7.holds Tryd.pinned (.plain (OpenSpec.ofChange schemaWordsSpec)) schemaWordsCard

/-- THE TIED CARD OF 'taluslaw14.SchemaRight'. -/
def schemaRightCard : Claim7 := { stood := { row := schemaRightRow, standIns := [], harness := (true, "ae9d99a6e7c5c46d31f7c8e9ee50556ce5bf8abe91aac04f962477cbc696ef97"), looks := false }, kinds := [], alts := [], laidByText := true, laidKinds := [.data, .pinned], laidTests := true, laidLooks := .later }
def SchemaRightCardSaid : Prop := Claim7.holds Tryd.pinned (.plain (OpenSpec.ofChange schemaRightSpec)) schemaRightCard

/-- THE TIED CARD OF 'taluslaw14.SchemaFinds'. -/
def schemaFindsCard : Claim7 := { stood := { row := schemaFindsRow, standIns := [], harness := (true, "ae9d99a6e7c5c46d31f7c8e9ee50556ce5bf8abe91aac04f962477cbc696ef97"), looks := false }, kinds := [], alts := [], laidByText := true, laidKinds := [.data, .pinned], laidTests := true, laidLooks := .later }
def SchemaFindsCardSaid : Prop := Claim7.holds Tryd.pinned (.plain (OpenSpec.ofChange schemaFindsSpec)) schemaFindsCard

/-- THE SECOND FORM's CARD OF 'taluslaw14.SchemaNames'. -/
def schemaNamesUptoCard : Claim7 := { stood := { row := schemaNamesUptoRow, standIns := [], harness := (true, "ae9d99a6e7c5c46d31f7c8e9ee50556ce5bf8abe91aac04f962477cbc696ef97"), looks := false }, kinds := [], alts := [], laidByText := true, laidKinds := [.data, .pinned], laidTests := true, laidLooks := .later }
def SchemaNamesUptoCardSaid : Prop := Claim7.holds Tryd.pinned (.plain (OpenSpec.upto schemaNamesSpec)) schemaNamesUptoCard

/-- THE SECOND FORM's CARD OF 'taluslaw14.SchemaTables'. -/
def schemaTablesUptoCard : Claim7 := { stood := { row := schemaTablesUptoRow, standIns := [], harness := (true, "ae9d99a6e7c5c46d31f7c8e9ee50556ce5bf8abe91aac04f962477cbc696ef97"), looks := false }, kinds := [], alts := [], laidByText := true, laidKinds := [.data, .pinned], laidTests := true, laidLooks := .later }
def SchemaTablesUptoCardSaid : Prop := Claim7.holds Tryd.pinned (.plain (OpenSpec.upto schemaTablesSpec)) schemaTablesUptoCard

/-- THE SECOND FORM's CARD OF 'taluslaw14.SchemaWords'. -/
def schemaWordsUptoCard : Claim7 := { stood := { row := schemaWordsUptoRow, standIns := [], harness := (true, "ae9d99a6e7c5c46d31f7c8e9ee50556ce5bf8abe91aac04f962477cbc696ef97"), looks := false }, kinds := [], alts := [], laidByText := true, laidKinds := [.data, .pinned], laidTests := true, laidLooks := .later }
def SchemaWordsUptoCardSaid : Prop := Claim7.holds Tryd.pinned (.plain (OpenSpec.upto schemaWordsSpec)) schemaWordsUptoCard

/-- THE SECOND FORM's CARD OF 'taluslaw14.SchemaRight'. -/
def schemaRightUptoCard : Claim7 := { stood := { row := schemaRightUptoRow, standIns := [], harness := (true, "ae9d99a6e7c5c46d31f7c8e9ee50556ce5bf8abe91aac04f962477cbc696ef97"), looks := false }, kinds := [], alts := [], laidByText := true, laidKinds := [.data, .pinned], laidTests := true, laidLooks := .later }
def SchemaRightUptoCardSaid : Prop := Claim7.holds Tryd.pinned (.plain (OpenSpec.upto schemaRightSpec)) schemaRightUptoCard

/-- THE SECOND FORM's CARD OF 'taluslaw14.SchemaFinds'. -/
def schemaFindsUptoCard : Claim7 := { stood := { row := schemaFindsUptoRow, standIns := [], harness := (true, "ae9d99a6e7c5c46d31f7c8e9ee50556ce5bf8abe91aac04f962477cbc696ef97"), looks := false }, kinds := [], alts := [], laidByText := true, laidKinds := [.data, .pinned], laidTests := true, laidLooks := .later }
def SchemaFindsUptoCardSaid : Prop := Claim7.holds Tryd.pinned (.plain (OpenSpec.upto schemaFindsSpec)) schemaFindsUptoCard
end Rows
end Go.Proofs.YtdehjgpdcdjhjaaDoor
