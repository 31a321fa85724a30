/-
  DERIVED. GIVEN WITH THE SEED: THE CARDS: each row of YtofpabocpcfbfaaDoorRows.lean that lists a variable, with what it lists TIED to the program's text (the seventh form; the later family's looks); each row that meets fmt, with fmt's text TOLD by the authors' own Lean function (tested against real Go, not proved from fmt's source: count such statements apart). THE CARD IS WHAT COUNTS. Prove the row's statement (the work); the ties are given (YtofpabocpcfbfaaDoorTie.lean); close each card by the builder's one call (the guide's Derived/Test/ToyasCard.lean, 'card_holds'). Laid BY PROGRAM, IN A SANDBOX (cutbox-door.mjs). By AI agents, Wed Nov 11 2026. No macro, syntax, notation, axiom, sorry.
-/
import Derived.Test.YtofpabocpcfbfaaDoorRows
import GoSem.ClaimSeven
namespace Go.Proofs.YtofpabocpcfbfaaDoor
namespace Rows

/-- THE TIED CARD OF 'skewbaldlaw06.HairOff'. -/
def hairOffCard : Claim7 := { stood := { row := hairOffRow, standIns := [], harness := (true, "572b60e73f7613f84dc3aaa30670921090351b6cb0934b0acb066e5faab4f881"), looks := false }, kinds := [], alts := [], laidByText := true, laidKinds := [.funcs], laidTests := true, laidLooks := .later }
def HairOffCardSaid : Prop := Claim7.holds Tryd.pinned (.plain (OpenSpec.ofChange hairOffSpec)) hairOffCard

/-- THE TIED CARD OF 'skewbaldlaw06.HairBest'. -/
def hairBestCard : Claim7 := { stood := { row := hairBestRow, standIns := [], harness := (true, "572b60e73f7613f84dc3aaa30670921090351b6cb0934b0acb066e5faab4f881"), looks := false }, kinds := [], alts := [], laidByText := true, laidKinds := [.funcs], laidTests := true, laidLooks := .later }
def HairBestCardSaid : Prop := Claim7.holds Tryd.pinned (.plain (OpenSpec.ofChange hairBestSpec)) hairBestCard

/-- THE TIED CARD OF 'skewbaldlaw06.HairLacks'. -/
def hairLacksCard : Claim7 := { stood := { row := hairLacksRow, standIns := [], harness := (true, "572b60e73f7613f84dc3aaa30670921090351b6cb0934b0acb066e5faab4f881"), looks := false }, kinds := [], alts := [], laidByText := true, laidKinds := [.funcs], laidTests := true, laidLooks := .later }
def HairLacksCardSaid : Prop := Claim7.holds Tryd.pinned (.plain (OpenSpec.ofChange hairLacksSpec)) hairLacksCard

/-- THE TIED CARD OF 'skewbaldlaw06.HairBuy'. -/
def hairBuyCard : Claim7 := { stood := { row := hairBuyRow, standIns := [], harness := (true, "572b60e73f7613f84dc3aaa30670921090351b6cb0934b0acb066e5faab4f881"), looks := false }, kinds := [], alts := [], laidByText := true, laidKinds := [.funcs], laidTests := true, laidLooks := .later }
def HairBuyCardSaid : Prop := Claim7.holds Tryd.pinned (.plain (OpenSpec.ofChange hairBuySpec)) hairBuyCard

/-- THE TIED CARD OF 'skewbaldlaw06.HairMore'. -/
def hairMoreCard : Claim7 := { stood := { row := hairMoreRow, standIns := [], harness := (true, "572b60e73f7613f84dc3aaa30670921090351b6cb0934b0acb066e5faab4f881"), looks := false }, kinds := [], alts := [], laidByText := true, laidKinds := [.funcs], laidTests := true, laidLooks := .later }
def HairMoreCardSaid : Prop := Claim7.holds Tryd.pinned (.plain (OpenSpec.ofChange hairMoreSpec)) hairMoreCard

/-- THE TIED CARD OF 'skewbaldlaw06.HairSame'. -/
def hairSameCard : Claim7 := { stood := { row := hairSameRow, standIns := [], harness := (true, "572b60e73f7613f84dc3aaa30670921090351b6cb0934b0acb066e5faab4f881"), looks := false }, kinds := [], alts := [], laidByText := true, laidKinds := [.funcs], laidTests := true, laidLooks := .later }
def HairSameCardSaid : Prop := Claim7.holds Tryd.pinned (.plain (OpenSpec.ofChange hairSameSpec)) hairSameCard

/-- THE TIED CARD OF 'skewbaldlaw06.HairEither'. -/
def hairEitherCard : Claim7 := { stood := { row := hairEitherRow, standIns := [], harness := (true, "572b60e73f7613f84dc3aaa30670921090351b6cb0934b0acb066e5faab4f881"), looks := false }, kinds := [], alts := [], laidByText := true, laidKinds := [.funcs], laidTests := true, laidLooks := .later }
def HairEitherCardSaid : Prop := Claim7.holds Tryd.pinned (.plain (OpenSpec.ofChange hairEitherSpec)) hairEitherCard

/-- THE TIED CARD OF 'skewbaldtop.TopStable'. -/
def topStableCard : Claim7 := { stood := { row := topStableRow, standIns := [], harness := (true, "572b60e73f7613f84dc3aaa30670921090351b6cb0934b0acb066e5faab4f881"), looks := false }, kinds := [], alts := [], laidByText := true, laidKinds := [.funcs, .data, .funcs], laidTests := true, laidLooks := .later }
def TopStableCardSaid : Prop := Claim7.holds Tryd.pinned (.plain (OpenSpec.ofChange topStableSpec)) topStableCard

/-- THE TIED CARD OF 'skewbaldlaw06.HairKnown'. -/
def hairKnownCard : Claim7 := { stood := { row := hairKnownRow, standIns := [], harness := (true, "572b60e73f7613f84dc3aaa30670921090351b6cb0934b0acb066e5faab4f881"), looks := false }, kinds := [], alts := [], laidByText := true, laidKinds := [.funcs], laidTests := true, laidLooks := .later }
def HairKnownCardSaid : Prop := Claim7.holds Tryd.pinned (.plain (OpenSpec.ofChange hairKnownSpec)) hairKnownCard

/-- THE TIED CARD OF 'skewbaldtop.TopLeast'. -/
def topLeastCard : Claim7 := { stood := { row := topLeastRow, standIns := [], harness := (true, "572b60e73f7613f84dc3aaa30670921090351b6cb0934b0acb066e5faab4f881"), looks := false }, kinds := [], alts := [], laidByText := true, laidKinds := [.funcs, .funcs, .data], laidTests := true, laidLooks := .later }
def TopLeastCardSaid : Prop := Claim7.holds Tryd.pinned (.plain (OpenSpec.ofChange topLeastSpec)) topLeastCard

/-- THE TIED CARD OF 'skewbaldlaw10.HarnessDays'. -/
def harnessDaysCard : Claim7 := { stood := { row := harnessDaysRow, standIns := [], harness := (true, "572b60e73f7613f84dc3aaa30670921090351b6cb0934b0acb066e5faab4f881"), looks := false }, kinds := [], alts := [], laidByText := true, laidKinds := [.funcs, .data, .funcs], laidTests := true, laidLooks := .later }
def HarnessDaysCardSaid : Prop := Claim7.holds Tryd.pinned (.plain (OpenSpec.ofChange harnessDaysSpec)) harnessDaysCard

/-- THE SECOND FORM's CARD OF 'skewbaldlaw06.HairOff'. -/
def hairOffUptoCard : Claim7 := { stood := { row := hairOffUptoRow, standIns := [], harness := (true, "572b60e73f7613f84dc3aaa30670921090351b6cb0934b0acb066e5faab4f881"), looks := false }, kinds := [], alts := [], laidByText := true, laidKinds := [.funcs], laidTests := true, laidLooks := .later }
def HairOffUptoCardSaid : Prop := Claim7.holds Tryd.pinned (.plain (OpenSpec.upto hairOffSpec)) hairOffUptoCard

/-- THE SECOND FORM's CARD OF 'skewbaldlaw06.HairBest'. -/
def hairBestUptoCard : Claim7 := { stood := { row := hairBestUptoRow, standIns := [], harness := (true, "572b60e73f7613f84dc3aaa30670921090351b6cb0934b0acb066e5faab4f881"), looks := false }, kinds := [], alts := [], laidByText := true, laidKinds := [.funcs], laidTests := true, laidLooks := .later }
def HairBestUptoCardSaid : Prop := Claim7.holds Tryd.pinned (.plain (OpenSpec.upto hairBestSpec)) hairBestUptoCard

/-- THE SECOND FORM's CARD OF 'skewbaldlaw06.HairLacks'. -/
def hairLacksUptoCard : Claim7 := { stood := { row := hairLacksUptoRow, standIns := [], harness := (true, "572b60e73f7613f84dc3aaa30670921090351b6cb0934b0acb066e5faab4f881"), looks := false }, kinds := [], alts := [], laidByText := true, laidKinds := [.funcs], laidTests := true, laidLooks := .later }
def HairLacksUptoCardSaid : Prop := Claim7.holds Tryd.pinned (.plain (OpenSpec.upto hairLacksSpec)) hairLacksUptoCard

/-- THE SECOND FORM's CARD OF 'skewbaldlaw06.HairBuy'. -/
def hairBuyUptoCard : Claim7 := { stood := { row := hairBuyUptoRow, standIns := [], harness := (true, "572b60e73f7613f84dc3aaa30670921090351b6cb0934b0acb066e5faab4f881"), looks := false }, kinds := [], alts := [], laidByText := true, laidKinds := [.funcs], laidTests := true, laidLooks := .later }
def HairBuyUptoCardSaid : Prop := Claim7.holds Tryd.pinned (.plain (OpenSpec.upto hairBuySpec)) hairBuyUptoCard

/-- THE SECOND FORM's CARD OF 'skewbaldlaw06.HairMore'. -/
def hairMoreUptoCard : Claim7 := { stood := { row := hairMoreUptoRow, standIns := [], harness := (true, "572b60e73f7613f84dc3aaa30670921090351b6cb0934b0acb066e5faab4f881"), looks := false }, kinds := [], alts := [], laidByText := true, laidKinds := [.funcs], laidTests := true, laidLooks := .later }
def HairMoreUptoCardSaid : Prop := Claim7.holds Tryd.pinned (.plain (OpenSpec.upto hairMoreSpec)) hairMoreUptoCard

/-- THE SECOND FORM's CARD OF 'skewbaldlaw06.HairSame'. -/
def hairSameUptoCard : Claim7 := { stood := { row := hairSameUptoRow, standIns := [], harness := (true, "572b60e73f7613f84dc3aaa30670921090351b6cb0934b0acb066e5faab4f881"), looks := false }, kinds := [], alts := [], laidByText := true, laidKinds := [.funcs], laidTests := true, laidLooks := .later }
def HairSameUptoCardSaid : Prop := Claim7.holds Tryd.pinned (.plain (OpenSpec.upto hairSameSpec)) hairSameUptoCard

/-- THE SECOND FORM's CARD OF 'skewbaldlaw06.HairEither'. -/
def hairEitherUptoCard : Claim7 := { stood := { row := hairEitherUptoRow, standIns := [], harness := (true, "572b60e73f7613f84dc3aaa30670921090351b6cb0934b0acb066e5faab4f881"), looks := false }, kinds := [], alts := [], laidByText := true, laidKinds := [.funcs], laidTests := true, laidLooks := .later }
def HairEitherUptoCardSaid : Prop := Claim7.holds Tryd.pinned (.plain (OpenSpec.upto hairEitherSpec)) hairEitherUptoCard

/-- THE SECOND FORM's CARD OF 'skewbaldtop.TopStable'. -/
def topStableUptoCard : Claim7 := { stood := { row := topStableUptoRow, standIns := [], harness := (true, "572b60e73f7613f84dc3aaa30670921090351b6cb0934b0acb066e5faab4f881"), looks := false }, kinds := [], alts := [], laidByText := true, laidKinds := [.funcs, .data, .funcs], laidTests := true, laidLooks := .later }
def TopStableUptoCardSaid : Prop := Claim7.holds Tryd.pinned (.plain (OpenSpec.upto topStableSpec)) topStableUptoCard

/-- THE SECOND FORM's CARD OF 'skewbaldlaw06.HairKnown'. -/
def hairKnownUptoCard : Claim7 := { stood := { row := hairKnownUptoRow, standIns := [], harness := (true, "572b60e73f7613f84dc3aaa30670921090351b6cb0934b0acb066e5faab4f881"), looks := false }, kinds := [], alts := [], laidByText := true, laidKinds := [.funcs], laidTests := true, laidLooks := .later }
def HairKnownUptoCardSaid : Prop := Claim7.holds Tryd.pinned (.plain (OpenSpec.upto hairKnownSpec)) hairKnownUptoCard

/-- THE SECOND FORM's CARD OF 'skewbaldtop.TopLeast'. -/
def topLeastUptoCard : Claim7 := { stood := { row := topLeastUptoRow, standIns := [], harness := (true, "572b60e73f7613f84dc3aaa30670921090351b6cb0934b0acb066e5faab4f881"), looks := false }, kinds := [], alts := [], laidByText := true, laidKinds := [.funcs, .funcs, .data], laidTests := true, laidLooks := .later }
def TopLeastUptoCardSaid : Prop := Claim7.holds Tryd.pinned (.plain (OpenSpec.upto topLeastSpec)) topLeastUptoCard

/-- THE SECOND FORM's CARD OF 'skewbaldlaw10.HarnessDays'. -/
def harnessDaysUptoCard : Claim7 := { stood := { row := harnessDaysUptoRow, standIns := [], harness := (true, "572b60e73f7613f84dc3aaa30670921090351b6cb0934b0acb066e5faab4f881"), looks := false }, kinds := [], alts := [], laidByText := true, laidKinds := [.funcs, .data, .funcs], laidTests := true, laidLooks := .later }
def HarnessDaysUptoCardSaid : Prop := Claim7.holds Tryd.pinned (.plain (OpenSpec.upto harnessDaysSpec)) harnessDaysUptoCard
end Rows
end Go.Proofs.YtofpabocpcfbfaaDoor
