/-
  DERIVED. GIVEN WITH THE SEED: THE CARDS: each row of YtjiaigjmihmdjaaDoorRows.lean that lists a variable, with what it lists TIED to the program's text (the seventh form; the later family's looks); each row that meets fmt, with fmt's text TOLD by the authors' own Lean function (tested against real Go, not proved from fmt's source: count such statements apart). THE CARD IS WHAT COUNTS. Prove the row's statement (the work); the ties are given (YtjiaigjmihmdjaaDoorTie.lean); close each card by the builder's one call (the guide's Derived/Test/ToyasCard.lean, 'card_holds'). Laid BY PROGRAM, IN A SANDBOX (cutbox-door.mjs). By AI agents, Wed Nov 11 2026. No macro, syntax, notation, axiom, sorry.
-/
import Derived.Test.YtjiaigjmihmdjaaDoorRows
import GoSem.ClaimSeven
namespace Go.Proofs.YtjiaigjmihmdjaaDoor
namespace Rows

/-- THE TIED CARD OF 'laws.FnSig'. -/
def fnSigCard : Claim7 := { stood := { row := fnSigRow, standIns := [], harness := (true, "4f26daf7a6f421a851165f49f69630428135ad5379fc95ca66114c830c3122df"), looks := false }, kinds := [], alts := [], laidByText := true, laidKinds := [.data, .data], laidTests := true, laidLooks := .later }
def FnSigCardSaid : Prop := Claim7.holds Tryd.pinned (.plain (OpenSpec.ofChange fnSigSpec)) fnSigCard

/-- THE TIED CARD OF 'laws.FnExactTakeAnswer'. -/
def fnExactTakeAnswerCard : Claim7 := { stood := { row := fnExactTakeAnswerRow, standIns := [], harness := (true, "4f26daf7a6f421a851165f49f69630428135ad5379fc95ca66114c830c3122df"), looks := false }, kinds := [], alts := [], laidByText := true, laidKinds := [.data, .data], laidTests := true, laidLooks := .later }
def FnExactTakeAnswerCardSaid : Prop := Claim7.holds Tryd.pinned (.plain (OpenSpec.ofChange fnExactTakeAnswerSpec)) fnExactTakeAnswerCard

/-- THE TIED CARD OF 'laws.FnExchange'. -/
def fnExchangeCard : Claim7 := { stood := { row := fnExchangeRow, standIns := [], harness := (true, "4f26daf7a6f421a851165f49f69630428135ad5379fc95ca66114c830c3122df"), looks := false }, kinds := [], alts := [], laidByText := true, laidKinds := [.data, .data], laidTests := true, laidLooks := .later }
def FnExchangeCardSaid : Prop := Claim7.holds Tryd.pinned (.plain (OpenSpec.ofChange fnExchangeSpec)) fnExchangeCard

/-- THE TIED CARD OF 'laws.FnExactShowNode'. -/
def fnExactShowNodeCard : Claim7 := { stood := { row := fnExactShowNodeRow, standIns := [], harness := (true, "4f26daf7a6f421a851165f49f69630428135ad5379fc95ca66114c830c3122df"), looks := false }, kinds := [], alts := [], laidByText := true, laidKinds := [.data, .data, .data, .data, .pinned], laidTests := true, laidLooks := .later }
def FnExactShowNodeCardSaid : Prop := Claim7.holds Tryd.pinned (.plain (OpenSpec.ofChange fnExactShowNodeSpec)) fnExactShowNodeCard

/-- THE TIED CARD OF 'laws.FnEntries'. -/
def fnEntriesCard : Claim7 := { stood := { row := fnEntriesRow, standIns := [], harness := (true, "4f26daf7a6f421a851165f49f69630428135ad5379fc95ca66114c830c3122df"), looks := false }, kinds := [], alts := [], laidByText := true, laidKinds := [.data, .pinned], laidTests := true, laidLooks := .later }
def FnEntriesCardSaid : Prop := Claim7.holds Tryd.pinned (.plain (OpenSpec.ofChange fnEntriesSpec)) fnEntriesCard

/-- THE TIED CARD OF 'laws.FnExactGetEntries'. -/
def fnExactGetEntriesCard : Claim7 := { stood := { row := fnExactGetEntriesRow, standIns := [], harness := (true, "4f26daf7a6f421a851165f49f69630428135ad5379fc95ca66114c830c3122df"), looks := false }, kinds := [], alts := [], laidByText := true, laidKinds := [.data, .pinned], laidTests := true, laidLooks := .later }
def FnExactGetEntriesCardSaid : Prop := Claim7.holds Tryd.pinned (.plain (OpenSpec.ofChange fnExactGetEntriesSpec)) fnExactGetEntriesCard

/-- THE TIED CARD OF 'laws.FnTokenCodec'. -/
def fnTokenCodecCard : Claim7 := { stood := { row := fnTokenCodecRow, standIns := [], harness := (true, "4f26daf7a6f421a851165f49f69630428135ad5379fc95ca66114c830c3122df"), looks := false }, kinds := [], alts := [], laidByText := true, laidKinds := [.data, .data], laidTests := true, laidLooks := .later }
def FnTokenCodecCardSaid : Prop := Claim7.holds Tryd.pinned (.plain (OpenSpec.ofChange fnTokenCodecSpec)) fnTokenCodecCard

/-- THE TIED CARD OF 'laws.FnExactAnswerTo'. -/
def fnExactAnswerToCard : Claim7 := { stood := { row := fnExactAnswerToRow, standIns := [], harness := (true, "4f26daf7a6f421a851165f49f69630428135ad5379fc95ca66114c830c3122df"), looks := false }, kinds := [], alts := [], laidByText := true, laidKinds := [.data, .data], laidTests := true, laidLooks := .later }
def FnExactAnswerToCardSaid : Prop := Claim7.holds Tryd.pinned (.plain (OpenSpec.ofChange fnExactAnswerToSpec)) fnExactAnswerToCard

/-- THE SECOND FORM's CARD OF 'laws.FnSig'. -/
def fnSigUptoCard : Claim7 := { stood := { row := fnSigUptoRow, standIns := [], harness := (true, "4f26daf7a6f421a851165f49f69630428135ad5379fc95ca66114c830c3122df"), looks := false }, kinds := [], alts := [], laidByText := true, laidKinds := [.data, .data], laidTests := true, laidLooks := .later }
def FnSigUptoCardSaid : Prop := Claim7.holds Tryd.pinned (.plain (OpenSpec.upto fnSigSpec)) fnSigUptoCard

/-- THE SECOND FORM's CARD OF 'laws.FnExactTakeAnswer'. -/
def fnExactTakeAnswerUptoCard : Claim7 := { stood := { row := fnExactTakeAnswerUptoRow, standIns := [], harness := (true, "4f26daf7a6f421a851165f49f69630428135ad5379fc95ca66114c830c3122df"), looks := false }, kinds := [], alts := [], laidByText := true, laidKinds := [.data, .data], laidTests := true, laidLooks := .later }
def FnExactTakeAnswerUptoCardSaid : Prop := Claim7.holds Tryd.pinned (.plain (OpenSpec.upto fnExactTakeAnswerSpec)) fnExactTakeAnswerUptoCard

/-- THE SECOND FORM's CARD OF 'laws.FnExchange'. -/
def fnExchangeUptoCard : Claim7 := { stood := { row := fnExchangeUptoRow, standIns := [], harness := (true, "4f26daf7a6f421a851165f49f69630428135ad5379fc95ca66114c830c3122df"), looks := false }, kinds := [], alts := [], laidByText := true, laidKinds := [.data, .data], laidTests := true, laidLooks := .later }
def FnExchangeUptoCardSaid : Prop := Claim7.holds Tryd.pinned (.plain (OpenSpec.upto fnExchangeSpec)) fnExchangeUptoCard

/-- THE SECOND FORM's CARD OF 'laws.FnExactShowNode'. -/
def fnExactShowNodeUptoCard : Claim7 := { stood := { row := fnExactShowNodeUptoRow, standIns := [], harness := (true, "4f26daf7a6f421a851165f49f69630428135ad5379fc95ca66114c830c3122df"), looks := false }, kinds := [], alts := [], laidByText := true, laidKinds := [.data, .data, .data, .data, .pinned], laidTests := true, laidLooks := .later }
def FnExactShowNodeUptoCardSaid : Prop := Claim7.holds Tryd.pinned (.plain (OpenSpec.upto fnExactShowNodeSpec)) fnExactShowNodeUptoCard

/-- THE SECOND FORM's CARD OF 'laws.FnEntries'. -/
def fnEntriesUptoCard : Claim7 := { stood := { row := fnEntriesUptoRow, standIns := [], harness := (true, "4f26daf7a6f421a851165f49f69630428135ad5379fc95ca66114c830c3122df"), looks := false }, kinds := [], alts := [], laidByText := true, laidKinds := [.data, .pinned], laidTests := true, laidLooks := .later }
def FnEntriesUptoCardSaid : Prop := Claim7.holds Tryd.pinned (.plain (OpenSpec.upto fnEntriesSpec)) fnEntriesUptoCard

/-- THE SECOND FORM's CARD OF 'laws.FnExactGetEntries'. -/
def fnExactGetEntriesUptoCard : Claim7 := { stood := { row := fnExactGetEntriesUptoRow, standIns := [], harness := (true, "4f26daf7a6f421a851165f49f69630428135ad5379fc95ca66114c830c3122df"), looks := false }, kinds := [], alts := [], laidByText := true, laidKinds := [.data, .pinned], laidTests := true, laidLooks := .later }
def FnExactGetEntriesUptoCardSaid : Prop := Claim7.holds Tryd.pinned (.plain (OpenSpec.upto fnExactGetEntriesSpec)) fnExactGetEntriesUptoCard

/-- THE SECOND FORM's CARD OF 'laws.FnTokenCodec'. -/
def fnTokenCodecUptoCard : Claim7 := { stood := { row := fnTokenCodecUptoRow, standIns := [], harness := (true, "4f26daf7a6f421a851165f49f69630428135ad5379fc95ca66114c830c3122df"), looks := false }, kinds := [], alts := [], laidByText := true, laidKinds := [.data, .data], laidTests := true, laidLooks := .later }
def FnTokenCodecUptoCardSaid : Prop := Claim7.holds Tryd.pinned (.plain (OpenSpec.upto fnTokenCodecSpec)) fnTokenCodecUptoCard

/-- THE SECOND FORM's CARD OF 'laws.FnExactAnswerTo'. -/
def fnExactAnswerToUptoCard : Claim7 := { stood := { row := fnExactAnswerToUptoRow, standIns := [], harness := (true, "4f26daf7a6f421a851165f49f69630428135ad5379fc95ca66114c830c3122df"), looks := false }, kinds := [], alts := [], laidByText := true, laidKinds := [.data, .data], laidTests := true, laidLooks := .later }
def FnExactAnswerToUptoCardSaid : Prop := Claim7.holds Tryd.pinned (.plain (OpenSpec.upto fnExactAnswerToSpec)) fnExactAnswerToUptoCard
end Rows
end Go.Proofs.YtjiaigjmihmdjaaDoor
