/-
  DERIVED. GIVEN WITH THE SEED: THE CARDS: each row of YtmplmfoacnnieaaDoorRows.lean that lists a variable, with what it lists TIED to the program's text (the seventh form; the later family's looks); each row that meets fmt, with fmt's text TOLD by the authors' own Lean function (tested against real Go, not proved from fmt's source: count such statements apart). THE CARD IS WHAT COUNTS. Prove the row's statement (the work); the ties are given (YtmplmfoacnnieaaDoorTie.lean); close each card by the builder's one call (the guide's Derived/Test/ToyasCard.lean, 'card_holds'). Laid BY PROGRAM, IN A SANDBOX (cutbox-door.mjs). By AI agents, Wed Nov 11 2026. No macro, syntax, notation, axiom, sorry.
-/
import Derived.Test.YtmplmfoacnnieaaDoorRows
import GoSem.ClaimSeven
namespace Go.Proofs.YtmplmfoacnnieaaDoor
namespace Rows

/-- THE TIED CARD OF 'laws.FnExactIsPlate'. -/
def fnExactIsPlateCard : Claim7 := { stood := { row := fnExactIsPlateRow, standIns := [], harness := (true, "51b707bc9ef5bf923c97fc5af121671a6811f49f4776f5f218f2a864c9882f8e"), looks := false }, kinds := [], alts := [], laidByText := true, laidKinds := [.data, .pinned], laidTests := true, laidLooks := .later }
def FnExactIsPlateCardSaid : Prop := Claim7.holds Tryd.pinned (.plain (OpenSpec.ofChange fnExactIsPlateSpec)) fnExactIsPlateCard

/-- THE TIED CARD OF 'laws.FnExactParseScheme'. -/
def fnExactParseSchemeCard : Claim7 := { stood := { row := fnExactParseSchemeRow, standIns := [], harness := (true, "51b707bc9ef5bf923c97fc5af121671a6811f49f4776f5f218f2a864c9882f8e"), looks := false }, kinds := [], alts := [], laidByText := true, laidKinds := [.data, .pinned], laidTests := true, laidLooks := .later }
def FnExactParseSchemeCardSaid : Prop := Claim7.holds Tryd.pinned (.plain (OpenSpec.ofChange fnExactParseSchemeSpec)) fnExactParseSchemeCard

/-- THE TIED CARD OF 'laws.FnExactCountPlates'. -/
def fnExactCountPlatesCard : Claim7 := { stood := { row := fnExactCountPlatesRow, standIns := [], harness := (true, "51b707bc9ef5bf923c97fc5af121671a6811f49f4776f5f218f2a864c9882f8e"), looks := false }, kinds := [], alts := [], laidByText := true, laidKinds := [.data, .pinned], laidTests := true, laidLooks := .later }
def FnExactCountPlatesCardSaid : Prop := Claim7.holds Tryd.pinned (.plain (OpenSpec.ofChange fnExactCountPlatesSpec)) fnExactCountPlatesCard

/-- THE TIED CARD OF 'laws.FnExactIsScheme'. -/
def fnExactIsSchemeCard : Claim7 := { stood := { row := fnExactIsSchemeRow, standIns := [], harness := (true, "51b707bc9ef5bf923c97fc5af121671a6811f49f4776f5f218f2a864c9882f8e"), looks := false }, kinds := [], alts := [], laidByText := true, laidKinds := [.data, .pinned], laidTests := true, laidLooks := .later }
def FnExactIsSchemeCardSaid : Prop := Claim7.holds Tryd.pinned (.plain (OpenSpec.ofChange fnExactIsSchemeSpec)) fnExactIsSchemeCard

/-- THE TIED CARD OF 'laws.FnExactSchemeText'. -/
def fnExactSchemeTextCard : Claim7 := { stood := { row := fnExactSchemeTextRow, standIns := [], harness := (true, "51b707bc9ef5bf923c97fc5af121671a6811f49f4776f5f218f2a864c9882f8e"), looks := false }, kinds := [], alts := [], laidByText := true, laidKinds := [.data, .pinned], laidTests := true, laidLooks := .later }
def FnExactSchemeTextCardSaid : Prop := Claim7.holds Tryd.pinned (.plain (OpenSpec.ofChange fnExactSchemeTextSpec)) fnExactSchemeTextCard

/-- THE TIED CARD OF 'laws.FnExactAddWord'. -/
def fnExactAddWordCard : Claim7 := { stood := { row := fnExactAddWordRow, standIns := [], harness := (true, "51b707bc9ef5bf923c97fc5af121671a6811f49f4776f5f218f2a864c9882f8e"), looks := false }, kinds := [], alts := [], laidByText := true, laidKinds := [.data, .pinned], laidTests := true, laidLooks := .later }
def FnExactAddWordCardSaid : Prop := Claim7.holds Tryd.pinned (.plain (OpenSpec.ofChange fnExactAddWordSpec)) fnExactAddWordCard

/-- THE TIED CARD OF 'laws.FnExactWordsIn'. -/
def fnExactWordsInCard : Claim7 := { stood := { row := fnExactWordsInRow, standIns := [], harness := (true, "51b707bc9ef5bf923c97fc5af121671a6811f49f4776f5f218f2a864c9882f8e"), looks := false }, kinds := [], alts := [], laidByText := true, laidKinds := [.data, .pinned], laidTests := true, laidLooks := .later }
def FnExactWordsInCardSaid : Prop := Claim7.holds Tryd.pinned (.plain (OpenSpec.ofChange fnExactWordsInSpec)) fnExactWordsInCard

/-- THE SECOND FORM's CARD OF 'laws.FnExactIsPlate'. -/
def fnExactIsPlateUptoCard : Claim7 := { stood := { row := fnExactIsPlateUptoRow, standIns := [], harness := (true, "51b707bc9ef5bf923c97fc5af121671a6811f49f4776f5f218f2a864c9882f8e"), looks := false }, kinds := [], alts := [], laidByText := true, laidKinds := [.data, .pinned], laidTests := true, laidLooks := .later }
def FnExactIsPlateUptoCardSaid : Prop := Claim7.holds Tryd.pinned (.plain (OpenSpec.upto fnExactIsPlateSpec)) fnExactIsPlateUptoCard

/-- THE SECOND FORM's CARD OF 'laws.FnExactParseScheme'. -/
def fnExactParseSchemeUptoCard : Claim7 := { stood := { row := fnExactParseSchemeUptoRow, standIns := [], harness := (true, "51b707bc9ef5bf923c97fc5af121671a6811f49f4776f5f218f2a864c9882f8e"), looks := false }, kinds := [], alts := [], laidByText := true, laidKinds := [.data, .pinned], laidTests := true, laidLooks := .later }
def FnExactParseSchemeUptoCardSaid : Prop := Claim7.holds Tryd.pinned (.plain (OpenSpec.upto fnExactParseSchemeSpec)) fnExactParseSchemeUptoCard

/-- THE SECOND FORM's CARD OF 'laws.FnExactCountPlates'. -/
def fnExactCountPlatesUptoCard : Claim7 := { stood := { row := fnExactCountPlatesUptoRow, standIns := [], harness := (true, "51b707bc9ef5bf923c97fc5af121671a6811f49f4776f5f218f2a864c9882f8e"), looks := false }, kinds := [], alts := [], laidByText := true, laidKinds := [.data, .pinned], laidTests := true, laidLooks := .later }
def FnExactCountPlatesUptoCardSaid : Prop := Claim7.holds Tryd.pinned (.plain (OpenSpec.upto fnExactCountPlatesSpec)) fnExactCountPlatesUptoCard

/-- THE SECOND FORM's CARD OF 'laws.FnExactIsScheme'. -/
def fnExactIsSchemeUptoCard : Claim7 := { stood := { row := fnExactIsSchemeUptoRow, standIns := [], harness := (true, "51b707bc9ef5bf923c97fc5af121671a6811f49f4776f5f218f2a864c9882f8e"), looks := false }, kinds := [], alts := [], laidByText := true, laidKinds := [.data, .pinned], laidTests := true, laidLooks := .later }
def FnExactIsSchemeUptoCardSaid : Prop := Claim7.holds Tryd.pinned (.plain (OpenSpec.upto fnExactIsSchemeSpec)) fnExactIsSchemeUptoCard

/-- THE SECOND FORM's CARD OF 'laws.FnExactSchemeText'. -/
def fnExactSchemeTextUptoCard : Claim7 := { stood := { row := fnExactSchemeTextUptoRow, standIns := [], harness := (true, "51b707bc9ef5bf923c97fc5af121671a6811f49f4776f5f218f2a864c9882f8e"), looks := false }, kinds := [], alts := [], laidByText := true, laidKinds := [.data, .pinned], laidTests := true, laidLooks := .later }
def FnExactSchemeTextUptoCardSaid : Prop := Claim7.holds Tryd.pinned (.plain (OpenSpec.upto fnExactSchemeTextSpec)) fnExactSchemeTextUptoCard

/-- THE SECOND FORM's CARD OF 'laws.FnExactAddWord'. -/
def fnExactAddWordUptoCard : Claim7 := { stood := { row := fnExactAddWordUptoRow, standIns := [], harness := (true, "51b707bc9ef5bf923c97fc5af121671a6811f49f4776f5f218f2a864c9882f8e"), looks := false }, kinds := [], alts := [], laidByText := true, laidKinds := [.data, .pinned], laidTests := true, laidLooks := .later }
def FnExactAddWordUptoCardSaid : Prop := Claim7.holds Tryd.pinned (.plain (OpenSpec.upto fnExactAddWordSpec)) fnExactAddWordUptoCard

/-- THE SECOND FORM's CARD OF 'laws.FnExactWordsIn'. -/
def fnExactWordsInUptoCard : Claim7 := { stood := { row := fnExactWordsInUptoRow, standIns := [], harness := (true, "51b707bc9ef5bf923c97fc5af121671a6811f49f4776f5f218f2a864c9882f8e"), looks := false }, kinds := [], alts := [], laidByText := true, laidKinds := [.data, .pinned], laidTests := true, laidLooks := .later }
def FnExactWordsInUptoCardSaid : Prop := Claim7.holds Tryd.pinned (.plain (OpenSpec.upto fnExactWordsInSpec)) fnExactWordsInUptoCard
end Rows
end Go.Proofs.YtmplmfoacnnieaaDoor
