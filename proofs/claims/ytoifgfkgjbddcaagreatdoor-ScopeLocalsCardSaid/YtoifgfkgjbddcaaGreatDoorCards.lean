/-
  DERIVED. GIVEN WITH THE SEED: THE CARDS: each row of YtoifgfkgjbddcaaGreatDoorRows.lean that lists a variable, with what it lists TIED to the program's text (the seventh form; the later family's looks); each row that meets fmt, with fmt's text TOLD by the authors' own Lean function (tested against real Go, not proved from fmt's source: count such statements apart). THE CARD IS WHAT COUNTS. Prove the row's statement (the work); the ties are given (YtoifgfkgjbddcaaGreatDoorTie.lean); close each card by the builder's one call (the guide's Derived/Test/ToyasCard.lean, 'card_holds'). Laid BY PROGRAM, IN A SANDBOX (cutbox-door.mjs). By AI agents, Wed Nov 11 2026. No macro, syntax, notation, axiom, sorry.
-/
import Derived.Test.YtoifgfkgjbddcaaGreatDoorRows
import GoSem.ClaimSeven
namespace Go.Proofs.YtoifgfkgjbddcaaGreatDoor
namespace Rows

/-- THE TIED CARD OF 'telamonlaw16.ScopeWrong'. -/
def scopeWrongCard : Claim7 := { stood := { row := scopeWrongRow, standIns := [], harness := (true, "36f8d362a3ff0e5d05beefd9c36f336bed42e8cfb27c02b21944ae897bb00aaa"), looks := true }, kinds := [], alts := [], laidByText := true, laidKinds := [.data, .handle, .pinned], laidTests := true, laidLooks := .later }
def ScopeWrongCardSaid : Prop := Claim7.holds Tryz.pinned (.plain (OpenSpec.ofChange scopeWrongSpec)) scopeWrongCard

/-- THE TIED CARD OF 'telamonlaw16.ScopeModules'. -/
def scopeModulesCard : Claim7 := { stood := { row := scopeModulesRow, standIns := [], harness := (true, "36f8d362a3ff0e5d05beefd9c36f336bed42e8cfb27c02b21944ae897bb00aaa"), looks := true }, kinds := [], alts := [], laidByText := true, laidKinds := [.data, .handle, .pinned], laidTests := true, laidLooks := .later }
def ScopeModulesCardSaid : Prop := Claim7.holds Tryz.pinned (.plain (OpenSpec.ofChange scopeModulesSpec)) scopeModulesCard

/-- THE TIED CARD OF 'telamonlaw16.ScopeLocals'. -/
def scopeLocalsCard : Claim7 := { stood := { row := scopeLocalsRow, standIns := [], harness := (true, "36f8d362a3ff0e5d05beefd9c36f336bed42e8cfb27c02b21944ae897bb00aaa"), looks := true }, kinds := [], alts := [], laidByText := true, laidKinds := [.data, .handle, .pinned], laidTests := true, laidLooks := .later }
def ScopeLocalsCardSaid : Prop := Claim7.holds Tryz.pinned (.plain (OpenSpec.ofChange scopeLocalsSpec)) scopeLocalsCard

/-- THE TIED CARD OF 'telamonlaw16.ScopeClauses'. -/
def scopeClausesCard : Claim7 := { stood := { row := scopeClausesRow, standIns := [], harness := (true, "36f8d362a3ff0e5d05beefd9c36f336bed42e8cfb27c02b21944ae897bb00aaa"), looks := true }, kinds := [], alts := [], laidByText := true, laidKinds := [.data, .handle, .pinned], laidTests := true, laidLooks := .later }
def ScopeClausesCardSaid : Prop := Claim7.holds Tryz.pinned (.plain (OpenSpec.ofChange scopeClausesSpec)) scopeClausesCard

/-- THE TIED CARD OF 'telamonlaw16.ScopeParams'. -/
def scopeParamsCard : Claim7 := { stood := { row := scopeParamsRow, standIns := [], harness := (true, "36f8d362a3ff0e5d05beefd9c36f336bed42e8cfb27c02b21944ae897bb00aaa"), looks := true }, kinds := [], alts := [], laidByText := true, laidKinds := [.data, .handle, .pinned], laidTests := true, laidLooks := .later }
def ScopeParamsCardSaid : Prop := Claim7.holds Tryz.pinned (.plain (OpenSpec.ofChange scopeParamsSpec)) scopeParamsCard

/-- THE SECOND FORM's CARD OF 'telamonlaw16.ScopeWrong'. -/
def scopeWrongUptoCard : Claim7 := { stood := { row := scopeWrongUptoRow, standIns := [], harness := (true, "36f8d362a3ff0e5d05beefd9c36f336bed42e8cfb27c02b21944ae897bb00aaa"), looks := true }, kinds := [], alts := [], laidByText := true, laidKinds := [.data, .handle, .pinned], laidTests := true, laidLooks := .later }
def ScopeWrongUptoCardSaid : Prop := Claim7.holds Tryz.pinned (.plain (OpenSpec.upto scopeWrongSpec)) scopeWrongUptoCard

/-- THE SECOND FORM's CARD OF 'telamonlaw16.ScopeModules'. -/
def scopeModulesUptoCard : Claim7 := { stood := { row := scopeModulesUptoRow, standIns := [], harness := (true, "36f8d362a3ff0e5d05beefd9c36f336bed42e8cfb27c02b21944ae897bb00aaa"), looks := true }, kinds := [], alts := [], laidByText := true, laidKinds := [.data, .handle, .pinned], laidTests := true, laidLooks := .later }
def ScopeModulesUptoCardSaid : Prop := Claim7.holds Tryz.pinned (.plain (OpenSpec.upto scopeModulesSpec)) scopeModulesUptoCard

/-- THE SECOND FORM's CARD OF 'telamonlaw16.ScopeLocals'. -/
def scopeLocalsUptoCard : Claim7 := { stood := { row := scopeLocalsUptoRow, standIns := [], harness := (true, "36f8d362a3ff0e5d05beefd9c36f336bed42e8cfb27c02b21944ae897bb00aaa"), looks := true }, kinds := [], alts := [], laidByText := true, laidKinds := [.data, .handle, .pinned], laidTests := true, laidLooks := .later }
def ScopeLocalsUptoCardSaid : Prop := Claim7.holds Tryz.pinned (.plain (OpenSpec.upto scopeLocalsSpec)) scopeLocalsUptoCard

/-- THE SECOND FORM's CARD OF 'telamonlaw16.ScopeClauses'. -/
def scopeClausesUptoCard : Claim7 := { stood := { row := scopeClausesUptoRow, standIns := [], harness := (true, "36f8d362a3ff0e5d05beefd9c36f336bed42e8cfb27c02b21944ae897bb00aaa"), looks := true }, kinds := [], alts := [], laidByText := true, laidKinds := [.data, .handle, .pinned], laidTests := true, laidLooks := .later }
def ScopeClausesUptoCardSaid : Prop := Claim7.holds Tryz.pinned (.plain (OpenSpec.upto scopeClausesSpec)) scopeClausesUptoCard

/-- THE SECOND FORM's CARD OF 'telamonlaw16.ScopeParams'. -/
def scopeParamsUptoCard : Claim7 := { stood := { row := scopeParamsUptoRow, standIns := [], harness := (true, "36f8d362a3ff0e5d05beefd9c36f336bed42e8cfb27c02b21944ae897bb00aaa"), looks := true }, kinds := [], alts := [], laidByText := true, laidKinds := [.data, .handle, .pinned], laidTests := true, laidLooks := .later }
def ScopeParamsUptoCardSaid : Prop := Claim7.holds Tryz.pinned (.plain (OpenSpec.upto scopeParamsSpec)) scopeParamsUptoCard
end Rows
end Go.Proofs.YtoifgfkgjbddcaaGreatDoor
