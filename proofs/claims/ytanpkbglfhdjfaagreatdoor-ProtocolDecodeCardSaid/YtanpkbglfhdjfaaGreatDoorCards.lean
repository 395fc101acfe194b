/-
  DERIVED. GIVEN WITH THE SEED: THE CARDS: each row of YtanpkbglfhdjfaaGreatDoorRows.lean that lists a variable, with what it lists TIED to the program's text (the seventh form; the later family's looks); each row that meets fmt, with fmt's text TOLD by the authors' own Lean function (tested against real Go, not proved from fmt's source: count such statements apart). THE CARD IS WHAT COUNTS. Prove the row's statement (the work); the ties are given (YtanpkbglfhdjfaaGreatDoorTie.lean); close each card by the builder's one call (the guide's Derived/Test/ToyasCard.lean, 'card_holds'). Laid BY PROGRAM, IN A SANDBOX (cutbox-door.mjs). By AI agents, Wed Nov 11 2026. No macro, syntax, notation, axiom, sorry.
-/
import Derived.Test.YtanpkbglfhdjfaaGreatDoorRows
import GoSem.ClaimSeven
namespace Go.Proofs.YtanpkbglfhdjfaaGreatDoor
namespace Rows

/-- THE TIED CARD OF 'emendatelaw55.ProtocolEncode'. -/
def protocolEncodeCard : Claim7 := { stood := { row := protocolEncodeRow, standIns := [], harness := (true, "61b19200f06adbccbccd27a5cf5467f25aa18304d26c9438fa05cb6f291bb564"), looks := true }, kinds := [], alts := [], laidByText := true, laidKinds := [.data, .data, .data, .data, .sentinel, .sentinel], laidTests := true, laidLooks := .later }
def ProtocolEncodeCardSaid : Prop := Claim7.holds Tryz.pinned (.plain (OpenSpec.ofChange protocolEncodeSpec)) protocolEncodeCard

/-- THE TIED CARD OF 'emendatelaw55.ProtocolDecode'. -/
def protocolDecodeCard : Claim7 := { stood := { row := protocolDecodeRow, standIns := [], harness := (true, "61b19200f06adbccbccd27a5cf5467f25aa18304d26c9438fa05cb6f291bb564"), looks := true }, kinds := [], alts := [], laidByText := true, laidKinds := [.data, .data, .data, .data, .sentinel, .sentinel], laidTests := true, laidLooks := .later }
def ProtocolDecodeCardSaid : Prop := Claim7.holds Tryz.pinned (.plain (OpenSpec.ofChange protocolDecodeSpec)) protocolDecodeCard

/-- THE TIED CARD OF 'emendatelaw55.ProtocolRoundTrip'. -/
def protocolRoundTripCard : Claim7 := { stood := { row := protocolRoundTripRow, standIns := [], harness := (true, "61b19200f06adbccbccd27a5cf5467f25aa18304d26c9438fa05cb6f291bb564"), looks := true }, kinds := [], alts := [], laidByText := true, laidKinds := [.data, .data, .data, .data, .sentinel, .sentinel], laidTests := true, laidLooks := .later }
def ProtocolRoundTripCardSaid : Prop := Claim7.holds Tryz.pinned (.plain (OpenSpec.ofChange protocolRoundTripSpec)) protocolRoundTripCard

/-- THE TIED CARD OF 'emendatelaw55.ProtocolPrefix'. -/
def protocolPrefixCard : Claim7 := { stood := { row := protocolPrefixRow, standIns := [], harness := (true, "61b19200f06adbccbccd27a5cf5467f25aa18304d26c9438fa05cb6f291bb564"), looks := true }, kinds := [], alts := [], laidByText := true, laidKinds := [.data, .data, .data, .data, .sentinel, .sentinel], laidTests := true, laidLooks := .later }
def ProtocolPrefixCardSaid : Prop := Claim7.holds Tryz.pinned (.plain (OpenSpec.ofChange protocolPrefixSpec)) protocolPrefixCard

/-- THE TIED CARD OF 'emendatelaw55.ProtocolStream'. -/
def protocolStreamCard : Claim7 := { stood := { row := protocolStreamRow, standIns := [], harness := (true, "61b19200f06adbccbccd27a5cf5467f25aa18304d26c9438fa05cb6f291bb564"), looks := true }, kinds := [], alts := [], laidByText := true, laidKinds := [.data, .data, .data, .data, .sentinel, .sentinel], laidTests := true, laidLooks := .later }
def ProtocolStreamCardSaid : Prop := Claim7.holds Tryz.pinned (.plain (OpenSpec.ofChange protocolStreamSpec)) protocolStreamCard

/-- THE SECOND FORM's CARD OF 'emendatelaw55.ProtocolEncode'. -/
def protocolEncodeUptoCard : Claim7 := { stood := { row := protocolEncodeUptoRow, standIns := [], harness := (true, "61b19200f06adbccbccd27a5cf5467f25aa18304d26c9438fa05cb6f291bb564"), looks := true }, kinds := [], alts := [], laidByText := true, laidKinds := [.data, .data, .data, .data, .sentinel, .sentinel], laidTests := true, laidLooks := .later }
def ProtocolEncodeUptoCardSaid : Prop := Claim7.holds Tryz.pinned (.plain (OpenSpec.upto protocolEncodeSpec)) protocolEncodeUptoCard

/-- THE SECOND FORM's CARD OF 'emendatelaw55.ProtocolDecode'. -/
def protocolDecodeUptoCard : Claim7 := { stood := { row := protocolDecodeUptoRow, standIns := [], harness := (true, "61b19200f06adbccbccd27a5cf5467f25aa18304d26c9438fa05cb6f291bb564"), looks := true }, kinds := [], alts := [], laidByText := true, laidKinds := [.data, .data, .data, .data, .sentinel, .sentinel], laidTests := true, laidLooks := .later }
def ProtocolDecodeUptoCardSaid : Prop := Claim7.holds Tryz.pinned (.plain (OpenSpec.upto protocolDecodeSpec)) protocolDecodeUptoCard

/-- THE SECOND FORM's CARD OF 'emendatelaw55.ProtocolRoundTrip'. -/
def protocolRoundTripUptoCard : Claim7 := { stood := { row := protocolRoundTripUptoRow, standIns := [], harness := (true, "61b19200f06adbccbccd27a5cf5467f25aa18304d26c9438fa05cb6f291bb564"), looks := true }, kinds := [], alts := [], laidByText := true, laidKinds := [.data, .data, .data, .data, .sentinel, .sentinel], laidTests := true, laidLooks := .later }
def ProtocolRoundTripUptoCardSaid : Prop := Claim7.holds Tryz.pinned (.plain (OpenSpec.upto protocolRoundTripSpec)) protocolRoundTripUptoCard

/-- THE SECOND FORM's CARD OF 'emendatelaw55.ProtocolPrefix'. -/
def protocolPrefixUptoCard : Claim7 := { stood := { row := protocolPrefixUptoRow, standIns := [], harness := (true, "61b19200f06adbccbccd27a5cf5467f25aa18304d26c9438fa05cb6f291bb564"), looks := true }, kinds := [], alts := [], laidByText := true, laidKinds := [.data, .data, .data, .data, .sentinel, .sentinel], laidTests := true, laidLooks := .later }
def ProtocolPrefixUptoCardSaid : Prop := Claim7.holds Tryz.pinned (.plain (OpenSpec.upto protocolPrefixSpec)) protocolPrefixUptoCard

/-- THE SECOND FORM's CARD OF 'emendatelaw55.ProtocolStream'. -/
def protocolStreamUptoCard : Claim7 := { stood := { row := protocolStreamUptoRow, standIns := [], harness := (true, "61b19200f06adbccbccd27a5cf5467f25aa18304d26c9438fa05cb6f291bb564"), looks := true }, kinds := [], alts := [], laidByText := true, laidKinds := [.data, .data, .data, .data, .sentinel, .sentinel], laidTests := true, laidLooks := .later }
def ProtocolStreamUptoCardSaid : Prop := Claim7.holds Tryz.pinned (.plain (OpenSpec.upto protocolStreamSpec)) protocolStreamUptoCard
end Rows
end Go.Proofs.YtanpkbglfhdjfaaGreatDoor
