/-
  NARROWER THAN 'FOR EVERY INPUT', by the rows' own cells (each row's printed sentence says how): StoreTakes: laid · ConnackEncodes: laid · ConnackBack: laid · AckEncodes: laid · SubscribeBack: laid · MiscEncodes: laid · MiscBack: laid · UnsubEncodes: laid · SubscribeEncodes: laid · PacketEncodes: laid · PacketBack: laid.
  DERIVED. THE GIVEN ROWS OF THIS SEAT. 11 by the template 'for every input the law returns true; each argument reads behind the call as it read before'; 0 by the template 'total and deterministic' (their statements: YthokkjdolcfhcaaGreatDoorTotals.lean).
  GIVEN WITH THE SEED: the statements are not yours to turn. If you find one false, say at which input.
  Laid BY PROGRAM, IN A SANDBOX (cutbox-rows.mjs): the forced cells as the released guide's own fill.sh prints them over the translation b0b4f8d2a8764b2b… (all of the seat's roots in one cut). By AI agents, Wed Nov 11 2026. No macro, syntax, notation, axiom, sorry.
-/
import Derived.Test.YthokkjdolcfhcaaGreatDoorChecked
import GoSem.Claim
import GoSem.ClaimJoined
import GoSem.ClaimMapViews
import Derived.JoinedTies
import Derived.KernelRfl
namespace Go.Proofs.YthokkjdolcfhcaaGreatDoor
/- THE CELL 'sum', in the pinned program and in every row, IS THE sha256 OF THE DUMP (.gsa) THAT YthokkjdolcfhcaaGreatDoorProg.lean LOADS. Nothing in Lean hashes anything: it is a label: what it is worth is what the hold of that sum in a sandbox is worth. -/
noncomputable def Tryz.pinned : Pinned := { name := "ythokkjdolcfhcaagreatdoor", sum := "b0b4f8d2a8764b2b53786dcddb8f918e7c6b67c46d25d93b53640e9c2246e1bb", checked := Tryz.checked }
namespace Rows
def none {H : Type} : Left H := { results := [], args := [] }

/- WHAT THE LISTED PACKAGE-LEVEL VARIABLES READ AS WHEN THE CALL BEGINS. Each datum BY PROGRAM (the guide's laid-datum.mjs) off the statement by which the dump's own 'gosem.cut.vars' lays the variable. In a bare row this is a premise. The card (YthokkjdolcfhcaaGreatDoorCards.lean) ties it to the program's text. -/
def laid_errors_errorType {H : Type} : DataW H := .iface "internal/reflectlite.rtype" (.agg [.ptr (.lit (.string [101, 114, 114, 111, 114]))])
def laid_towncrier_api_ErrShort {H : Type} : DataW H := .iface "*errors.errorString" (.ptr (.agg [.lit (.string [116, 111, 111, 32, 102, 101, 119, 32, 98, 121, 116, 101, 115])]))
def laid_towncrier_api_ErrMalformed {H : Type} : DataW H := .iface "*errors.errorString" (.ptr (.agg [.lit (.string [109, 97, 108, 102, 111, 114, 109, 101, 100])]))
def laid_towncrier_api_ErrProtocol {H : Type} : DataW H := .iface "*errors.errorString" (.ptr (.agg [.lit (.string [97, 103, 97, 105, 110, 115, 116, 32, 116, 104, 101, 32, 112, 114, 111, 116, 111, 99, 111, 108])]))
def laid_towncrier_api_ErrTooLarge {H : Type} : DataW H := .iface "*errors.errorString" (.ptr (.agg [.lit (.string [116, 111, 111, 32, 108, 97, 114, 103, 101])]))
def laid_towncrier_api_ErrQuota {H : Type} : DataW H := .iface "*errors.errorString" (.ptr (.agg [.lit (.string [110, 111, 32, 114, 111, 111, 109])]))
def laid_towncrier_api_ErrState {H : Type} : DataW H := .iface "*errors.errorString" (.ptr (.agg [.lit (.string [110, 111, 116, 32, 110, 111, 119])]))
def laid_towncrier_api_ErrArgument {H : Type} : DataW H := .iface "*errors.errorString" (.ptr (.agg [.lit (.string [110, 111, 32, 115, 117, 99, 104, 32, 116, 104, 105, 110, 103])]))

/-- 'towncrierlaw34.StoreTakes': WHATEVER THE INPUT: true; the input reads as it did. -/
def storeTakesSpec : ChangeSpec := { name := "storeTakes", fn := fun _ => fun
  | [d] => { results := [.lit (.bool true)], args := [d] }
  | _ => none }
def storeTakesRow : OpenClaim := { program := "ythokkjdolcfhcaagreatdoor", sum := "b0b4f8d2a8764b2b53786dcddb8f918e7c6b67c46d25d93b53640e9c2246e1bb", func := "towncrier/towncrierlaw34.StoreTakes", spec := "storeTakes", inPlace := ["internal/reflectlite.ValueOf", "(internal/reflectlite.Value).Type", "(internal/reflectlite.Value).IsNil", "internal/reflectlite.TypeOf", "(internal/reflectlite.Value).Elem", "(internal/reflectlite.Value).Set"], unfollowed := true, recurses := true, named := ["towncrier/api.ErrArgument", "towncrier/api.ErrTooLarge", "towncrier/api.ErrMalformed", "towncrier/api.ErrProtocol", "errors.errorType", "towncrier/api.ErrShort", "towncrier/api.ErrQuota", "towncrier/api.ErrState"], apart := false, laid := [("errors.errorType", laid_errors_errorType), ("towncrier/api.ErrShort", laid_towncrier_api_ErrShort), ("towncrier/api.ErrMalformed", laid_towncrier_api_ErrMalformed), ("towncrier/api.ErrProtocol", laid_towncrier_api_ErrProtocol), ("towncrier/api.ErrTooLarge", laid_towncrier_api_ErrTooLarge), ("towncrier/api.ErrQuota", laid_towncrier_api_ErrQuota), ("towncrier/api.ErrState", laid_towncrier_api_ErrState), ("towncrier/api.ErrArgument", laid_towncrier_api_ErrArgument)] }
def StoreTakesSaid : Prop := storeTakesRow.holds Tryz.pinned (OpenSpec.ofChange storeTakesSpec)

/-- ITS FALSE NEIGHBOUR: 'it returns false'. Refute it at one input. -/
def storeTakesWrong : ChangeSpec := { name := "storeTakes", fn := fun _ => fun
  | [d] => { results := [.lit (.bool false)], args := [d] }
  | _ => none }
def StoreTakesWrongFalsely : Prop := storeTakesRow.holds Tryz.pinned (OpenSpec.ofChange storeTakesWrong)

/-- 'towncrierlaw09.ConnackEncodes': WHATEVER THE INPUT: true; the input reads as it did. -/
def connackEncodesSpec : ChangeSpec := { name := "connackEncodes", fn := fun _ => fun
  | [d] => { results := [.lit (.bool true)], args := [d] }
  | _ => none }
def connackEncodesRow : OpenClaim := { program := "ythokkjdolcfhcaagreatdoor", sum := "b0b4f8d2a8764b2b53786dcddb8f918e7c6b67c46d25d93b53640e9c2246e1bb", func := "towncrier/towncrierlaw09.ConnackEncodes", spec := "connackEncodes", inPlace := ["internal/reflectlite.ValueOf", "(internal/reflectlite.Value).Type", "(internal/reflectlite.Value).IsNil", "internal/reflectlite.TypeOf", "(internal/reflectlite.Value).Elem", "(internal/reflectlite.Value).Set"], unfollowed := true, recurses := true, named := ["towncrier/api.ErrTooLarge", "towncrier/api.ErrMalformed", "towncrier/api.ErrProtocol", "errors.errorType", "towncrier/api.ErrShort", "towncrier/api.ErrQuota", "towncrier/api.ErrState", "towncrier/api.ErrArgument"], apart := false, laid := [("errors.errorType", laid_errors_errorType), ("towncrier/api.ErrShort", laid_towncrier_api_ErrShort), ("towncrier/api.ErrMalformed", laid_towncrier_api_ErrMalformed), ("towncrier/api.ErrProtocol", laid_towncrier_api_ErrProtocol), ("towncrier/api.ErrTooLarge", laid_towncrier_api_ErrTooLarge), ("towncrier/api.ErrQuota", laid_towncrier_api_ErrQuota), ("towncrier/api.ErrState", laid_towncrier_api_ErrState), ("towncrier/api.ErrArgument", laid_towncrier_api_ErrArgument)] }
def ConnackEncodesSaid : Prop := connackEncodesRow.holds Tryz.pinned (OpenSpec.ofChange connackEncodesSpec)

/-- ITS FALSE NEIGHBOUR: 'it returns false'. Refute it at one input. -/
def connackEncodesWrong : ChangeSpec := { name := "connackEncodes", fn := fun _ => fun
  | [d] => { results := [.lit (.bool false)], args := [d] }
  | _ => none }
def ConnackEncodesWrongFalsely : Prop := connackEncodesRow.holds Tryz.pinned (OpenSpec.ofChange connackEncodesWrong)

/-- 'towncrierlaw09.ConnackBack': WHATEVER THE INPUT: true; the input reads as it did. -/
def connackBackSpec : ChangeSpec := { name := "connackBack", fn := fun _ => fun
  | [d1, d2, d3] => { results := [.lit (.bool true)], args := [d1, d2, d3] }
  | _ => none }
def connackBackRow : OpenClaim := { program := "ythokkjdolcfhcaagreatdoor", sum := "b0b4f8d2a8764b2b53786dcddb8f918e7c6b67c46d25d93b53640e9c2246e1bb", func := "towncrier/towncrierlaw09.ConnackBack", spec := "connackBack", inPlace := ["internal/reflectlite.ValueOf", "(internal/reflectlite.Value).Type", "(internal/reflectlite.Value).IsNil", "internal/reflectlite.TypeOf", "(internal/reflectlite.Value).Elem", "(internal/reflectlite.Value).Set"], unfollowed := true, recurses := true, named := ["towncrier/api.ErrTooLarge", "towncrier/api.ErrMalformed", "towncrier/api.ErrProtocol", "errors.errorType", "towncrier/api.ErrShort", "towncrier/api.ErrQuota", "towncrier/api.ErrState", "towncrier/api.ErrArgument"], apart := false, laid := [("errors.errorType", laid_errors_errorType), ("towncrier/api.ErrShort", laid_towncrier_api_ErrShort), ("towncrier/api.ErrMalformed", laid_towncrier_api_ErrMalformed), ("towncrier/api.ErrProtocol", laid_towncrier_api_ErrProtocol), ("towncrier/api.ErrTooLarge", laid_towncrier_api_ErrTooLarge), ("towncrier/api.ErrQuota", laid_towncrier_api_ErrQuota), ("towncrier/api.ErrState", laid_towncrier_api_ErrState), ("towncrier/api.ErrArgument", laid_towncrier_api_ErrArgument)] }
def ConnackBackSaid : Prop := connackBackRow.holds Tryz.pinned (OpenSpec.ofChange connackBackSpec)

/-- ITS FALSE NEIGHBOUR: 'it returns false'. Refute it at one input. -/
def connackBackWrong : ChangeSpec := { name := "connackBack", fn := fun _ => fun
  | [d1, d2, d3] => { results := [.lit (.bool false)], args := [d1, d2, d3] }
  | _ => none }
def ConnackBackWrongFalsely : Prop := connackBackRow.holds Tryz.pinned (OpenSpec.ofChange connackBackWrong)

/-- 'towncrierlaw11.AckEncodes': WHATEVER THE INPUT: true; the input reads as it did. -/
def ackEncodesSpec : ChangeSpec := { name := "ackEncodes", fn := fun _ => fun
  | [d] => { results := [.lit (.bool true)], args := [d] }
  | _ => none }
def ackEncodesRow : OpenClaim := { program := "ythokkjdolcfhcaagreatdoor", sum := "b0b4f8d2a8764b2b53786dcddb8f918e7c6b67c46d25d93b53640e9c2246e1bb", func := "towncrier/towncrierlaw11.AckEncodes", spec := "ackEncodes", inPlace := ["internal/reflectlite.ValueOf", "(internal/reflectlite.Value).Type", "(internal/reflectlite.Value).IsNil", "internal/reflectlite.TypeOf", "(internal/reflectlite.Value).Elem", "(internal/reflectlite.Value).Set"], unfollowed := true, recurses := true, named := ["towncrier/api.ErrArgument", "towncrier/api.ErrTooLarge", "towncrier/api.ErrMalformed", "towncrier/api.ErrProtocol", "errors.errorType", "towncrier/api.ErrShort", "towncrier/api.ErrQuota", "towncrier/api.ErrState"], apart := false, laid := [("errors.errorType", laid_errors_errorType), ("towncrier/api.ErrShort", laid_towncrier_api_ErrShort), ("towncrier/api.ErrMalformed", laid_towncrier_api_ErrMalformed), ("towncrier/api.ErrProtocol", laid_towncrier_api_ErrProtocol), ("towncrier/api.ErrTooLarge", laid_towncrier_api_ErrTooLarge), ("towncrier/api.ErrQuota", laid_towncrier_api_ErrQuota), ("towncrier/api.ErrState", laid_towncrier_api_ErrState), ("towncrier/api.ErrArgument", laid_towncrier_api_ErrArgument)] }
def AckEncodesSaid : Prop := ackEncodesRow.holds Tryz.pinned (OpenSpec.ofChange ackEncodesSpec)

/-- ITS FALSE NEIGHBOUR: 'it returns false'. Refute it at one input. -/
def ackEncodesWrong : ChangeSpec := { name := "ackEncodes", fn := fun _ => fun
  | [d] => { results := [.lit (.bool false)], args := [d] }
  | _ => none }
def AckEncodesWrongFalsely : Prop := ackEncodesRow.holds Tryz.pinned (OpenSpec.ofChange ackEncodesWrong)

/-- 'towncrierlaw12.SubscribeBack': WHATEVER THE INPUT: true; the input reads as it did. -/
def subscribeBackSpec : ChangeSpec := { name := "subscribeBack", fn := fun _ => fun
  | [d1, d2, d3] => { results := [.lit (.bool true)], args := [d1, d2, d3] }
  | _ => none }
def subscribeBackRow : OpenClaim := { program := "ythokkjdolcfhcaagreatdoor", sum := "b0b4f8d2a8764b2b53786dcddb8f918e7c6b67c46d25d93b53640e9c2246e1bb", func := "towncrier/towncrierlaw12.SubscribeBack", spec := "subscribeBack", inPlace := ["internal/reflectlite.ValueOf", "(internal/reflectlite.Value).Type", "(internal/reflectlite.Value).IsNil", "internal/reflectlite.TypeOf", "(internal/reflectlite.Value).Elem", "(internal/reflectlite.Value).Set"], unfollowed := true, recurses := true, named := ["towncrier/api.ErrArgument", "towncrier/api.ErrTooLarge", "towncrier/api.ErrMalformed", "towncrier/api.ErrProtocol", "errors.errorType", "towncrier/api.ErrShort"], apart := false, laid := [("errors.errorType", laid_errors_errorType), ("towncrier/api.ErrShort", laid_towncrier_api_ErrShort), ("towncrier/api.ErrMalformed", laid_towncrier_api_ErrMalformed), ("towncrier/api.ErrProtocol", laid_towncrier_api_ErrProtocol), ("towncrier/api.ErrTooLarge", laid_towncrier_api_ErrTooLarge), ("towncrier/api.ErrArgument", laid_towncrier_api_ErrArgument)] }
def SubscribeBackSaid : Prop := subscribeBackRow.holds Tryz.pinned (OpenSpec.ofChange subscribeBackSpec)

/-- ITS FALSE NEIGHBOUR: 'it returns false'. Refute it at one input. -/
def subscribeBackWrong : ChangeSpec := { name := "subscribeBack", fn := fun _ => fun
  | [d1, d2, d3] => { results := [.lit (.bool false)], args := [d1, d2, d3] }
  | _ => none }
def SubscribeBackWrongFalsely : Prop := subscribeBackRow.holds Tryz.pinned (OpenSpec.ofChange subscribeBackWrong)

/-- 'towncrierlaw14.MiscEncodes': WHATEVER THE INPUT: true; the input reads as it did. -/
def miscEncodesSpec : ChangeSpec := { name := "miscEncodes", fn := fun _ => fun
  | [d] => { results := [.lit (.bool true)], args := [d] }
  | _ => none }
def miscEncodesRow : OpenClaim := { program := "ythokkjdolcfhcaagreatdoor", sum := "b0b4f8d2a8764b2b53786dcddb8f918e7c6b67c46d25d93b53640e9c2246e1bb", func := "towncrier/towncrierlaw14.MiscEncodes", spec := "miscEncodes", inPlace := ["internal/reflectlite.ValueOf", "(internal/reflectlite.Value).Type", "(internal/reflectlite.Value).IsNil", "internal/reflectlite.TypeOf", "(internal/reflectlite.Value).Elem", "(internal/reflectlite.Value).Set"], unfollowed := true, recurses := true, named := ["towncrier/api.ErrArgument", "towncrier/api.ErrTooLarge", "towncrier/api.ErrMalformed", "towncrier/api.ErrProtocol", "errors.errorType", "towncrier/api.ErrShort", "towncrier/api.ErrQuota", "towncrier/api.ErrState"], apart := false, laid := [("errors.errorType", laid_errors_errorType), ("towncrier/api.ErrShort", laid_towncrier_api_ErrShort), ("towncrier/api.ErrMalformed", laid_towncrier_api_ErrMalformed), ("towncrier/api.ErrProtocol", laid_towncrier_api_ErrProtocol), ("towncrier/api.ErrTooLarge", laid_towncrier_api_ErrTooLarge), ("towncrier/api.ErrQuota", laid_towncrier_api_ErrQuota), ("towncrier/api.ErrState", laid_towncrier_api_ErrState), ("towncrier/api.ErrArgument", laid_towncrier_api_ErrArgument)] }
def MiscEncodesSaid : Prop := miscEncodesRow.holds Tryz.pinned (OpenSpec.ofChange miscEncodesSpec)

/-- ITS FALSE NEIGHBOUR: 'it returns false'. Refute it at one input. -/
def miscEncodesWrong : ChangeSpec := { name := "miscEncodes", fn := fun _ => fun
  | [d] => { results := [.lit (.bool false)], args := [d] }
  | _ => none }
def MiscEncodesWrongFalsely : Prop := miscEncodesRow.holds Tryz.pinned (OpenSpec.ofChange miscEncodesWrong)

/-- 'towncrierlaw14.MiscBack': WHATEVER THE INPUT: true; the input reads as it did. -/
def miscBackSpec : ChangeSpec := { name := "miscBack", fn := fun _ => fun
  | [d1, d2, d3] => { results := [.lit (.bool true)], args := [d1, d2, d3] }
  | _ => none }
def miscBackRow : OpenClaim := { program := "ythokkjdolcfhcaagreatdoor", sum := "b0b4f8d2a8764b2b53786dcddb8f918e7c6b67c46d25d93b53640e9c2246e1bb", func := "towncrier/towncrierlaw14.MiscBack", spec := "miscBack", inPlace := ["internal/reflectlite.ValueOf", "(internal/reflectlite.Value).Type", "(internal/reflectlite.Value).IsNil", "internal/reflectlite.TypeOf", "(internal/reflectlite.Value).Elem", "(internal/reflectlite.Value).Set"], unfollowed := true, recurses := true, named := ["towncrier/api.ErrArgument", "towncrier/api.ErrTooLarge", "towncrier/api.ErrMalformed", "towncrier/api.ErrProtocol", "errors.errorType", "towncrier/api.ErrShort", "towncrier/api.ErrQuota", "towncrier/api.ErrState"], apart := false, laid := [("errors.errorType", laid_errors_errorType), ("towncrier/api.ErrShort", laid_towncrier_api_ErrShort), ("towncrier/api.ErrMalformed", laid_towncrier_api_ErrMalformed), ("towncrier/api.ErrProtocol", laid_towncrier_api_ErrProtocol), ("towncrier/api.ErrTooLarge", laid_towncrier_api_ErrTooLarge), ("towncrier/api.ErrQuota", laid_towncrier_api_ErrQuota), ("towncrier/api.ErrState", laid_towncrier_api_ErrState), ("towncrier/api.ErrArgument", laid_towncrier_api_ErrArgument)] }
def MiscBackSaid : Prop := miscBackRow.holds Tryz.pinned (OpenSpec.ofChange miscBackSpec)

/-- ITS FALSE NEIGHBOUR: 'it returns false'. Refute it at one input. -/
def miscBackWrong : ChangeSpec := { name := "miscBack", fn := fun _ => fun
  | [d1, d2, d3] => { results := [.lit (.bool false)], args := [d1, d2, d3] }
  | _ => none }
def MiscBackWrongFalsely : Prop := miscBackRow.holds Tryz.pinned (OpenSpec.ofChange miscBackWrong)

/-- 'towncrierlaw13.UnsubEncodes': WHATEVER THE INPUT: true; the input reads as it did. -/
def unsubEncodesSpec : ChangeSpec := { name := "unsubEncodes", fn := fun _ => fun
  | [d] => { results := [.lit (.bool true)], args := [d] }
  | _ => none }
def unsubEncodesRow : OpenClaim := { program := "ythokkjdolcfhcaagreatdoor", sum := "b0b4f8d2a8764b2b53786dcddb8f918e7c6b67c46d25d93b53640e9c2246e1bb", func := "towncrier/towncrierlaw13.UnsubEncodes", spec := "unsubEncodes", inPlace := ["internal/reflectlite.ValueOf", "(internal/reflectlite.Value).Type", "(internal/reflectlite.Value).IsNil", "internal/reflectlite.TypeOf", "(internal/reflectlite.Value).Elem", "(internal/reflectlite.Value).Set"], unfollowed := true, recurses := true, named := ["towncrier/api.ErrArgument", "towncrier/api.ErrTooLarge", "towncrier/api.ErrMalformed", "towncrier/api.ErrProtocol", "errors.errorType", "towncrier/api.ErrShort", "towncrier/api.ErrQuota", "towncrier/api.ErrState"], apart := false, laid := [("errors.errorType", laid_errors_errorType), ("towncrier/api.ErrShort", laid_towncrier_api_ErrShort), ("towncrier/api.ErrMalformed", laid_towncrier_api_ErrMalformed), ("towncrier/api.ErrProtocol", laid_towncrier_api_ErrProtocol), ("towncrier/api.ErrTooLarge", laid_towncrier_api_ErrTooLarge), ("towncrier/api.ErrQuota", laid_towncrier_api_ErrQuota), ("towncrier/api.ErrState", laid_towncrier_api_ErrState), ("towncrier/api.ErrArgument", laid_towncrier_api_ErrArgument)] }
def UnsubEncodesSaid : Prop := unsubEncodesRow.holds Tryz.pinned (OpenSpec.ofChange unsubEncodesSpec)

/-- ITS FALSE NEIGHBOUR: 'it returns false'. Refute it at one input. -/
def unsubEncodesWrong : ChangeSpec := { name := "unsubEncodes", fn := fun _ => fun
  | [d] => { results := [.lit (.bool false)], args := [d] }
  | _ => none }
def UnsubEncodesWrongFalsely : Prop := unsubEncodesRow.holds Tryz.pinned (OpenSpec.ofChange unsubEncodesWrong)

/-- 'towncrierlaw12.SubscribeEncodes': WHATEVER THE INPUT: true; the input reads as it did. -/
def subscribeEncodesSpec : ChangeSpec := { name := "subscribeEncodes", fn := fun _ => fun
  | [d] => { results := [.lit (.bool true)], args := [d] }
  | _ => none }
def subscribeEncodesRow : OpenClaim := { program := "ythokkjdolcfhcaagreatdoor", sum := "b0b4f8d2a8764b2b53786dcddb8f918e7c6b67c46d25d93b53640e9c2246e1bb", func := "towncrier/towncrierlaw12.SubscribeEncodes", spec := "subscribeEncodes", inPlace := ["internal/reflectlite.ValueOf", "(internal/reflectlite.Value).Type", "(internal/reflectlite.Value).IsNil", "internal/reflectlite.TypeOf", "(internal/reflectlite.Value).Elem", "(internal/reflectlite.Value).Set"], unfollowed := true, recurses := true, named := ["towncrier/api.ErrArgument", "towncrier/api.ErrTooLarge", "towncrier/api.ErrMalformed", "towncrier/api.ErrProtocol", "errors.errorType", "towncrier/api.ErrShort", "towncrier/api.ErrQuota", "towncrier/api.ErrState"], apart := false, laid := [("errors.errorType", laid_errors_errorType), ("towncrier/api.ErrShort", laid_towncrier_api_ErrShort), ("towncrier/api.ErrMalformed", laid_towncrier_api_ErrMalformed), ("towncrier/api.ErrProtocol", laid_towncrier_api_ErrProtocol), ("towncrier/api.ErrTooLarge", laid_towncrier_api_ErrTooLarge), ("towncrier/api.ErrQuota", laid_towncrier_api_ErrQuota), ("towncrier/api.ErrState", laid_towncrier_api_ErrState), ("towncrier/api.ErrArgument", laid_towncrier_api_ErrArgument)] }
def SubscribeEncodesSaid : Prop := subscribeEncodesRow.holds Tryz.pinned (OpenSpec.ofChange subscribeEncodesSpec)

/-- ITS FALSE NEIGHBOUR: 'it returns false'. Refute it at one input. -/
def subscribeEncodesWrong : ChangeSpec := { name := "subscribeEncodes", fn := fun _ => fun
  | [d] => { results := [.lit (.bool false)], args := [d] }
  | _ => none }
def SubscribeEncodesWrongFalsely : Prop := subscribeEncodesRow.holds Tryz.pinned (OpenSpec.ofChange subscribeEncodesWrong)

/-- 'towncrierlaw15.PacketEncodes': WHATEVER THE INPUT: true; the input reads as it did. -/
def packetEncodesSpec : ChangeSpec := { name := "packetEncodes", fn := fun _ => fun
  | [d1, d2] => { results := [.lit (.bool true)], args := [d1, d2] }
  | _ => none }
def packetEncodesRow : OpenClaim := { program := "ythokkjdolcfhcaagreatdoor", sum := "b0b4f8d2a8764b2b53786dcddb8f918e7c6b67c46d25d93b53640e9c2246e1bb", func := "towncrier/towncrierlaw15.PacketEncodes", spec := "packetEncodes", inPlace := ["internal/reflectlite.TypeOf", "internal/reflectlite.ValueOf", "(internal/reflectlite.Value).Type", "(internal/reflectlite.Value).IsNil", "(internal/reflectlite.Value).Elem", "(internal/reflectlite.Value).Set"], unfollowed := true, recurses := true, named := ["towncrier/api.ErrMalformed", "towncrier/api.ErrShort", "towncrier/api.ErrTooLarge", "errors.errorType", "towncrier/api.ErrProtocol", "towncrier/api.ErrArgument", "towncrier/api.ErrQuota", "towncrier/api.ErrState"], apart := false, laid := [("errors.errorType", laid_errors_errorType), ("towncrier/api.ErrShort", laid_towncrier_api_ErrShort), ("towncrier/api.ErrMalformed", laid_towncrier_api_ErrMalformed), ("towncrier/api.ErrProtocol", laid_towncrier_api_ErrProtocol), ("towncrier/api.ErrTooLarge", laid_towncrier_api_ErrTooLarge), ("towncrier/api.ErrQuota", laid_towncrier_api_ErrQuota), ("towncrier/api.ErrState", laid_towncrier_api_ErrState), ("towncrier/api.ErrArgument", laid_towncrier_api_ErrArgument)] }
def PacketEncodesSaid : Prop := packetEncodesRow.holds Tryz.pinned (OpenSpec.ofChange packetEncodesSpec)

/-- ITS FALSE NEIGHBOUR: 'it returns false'. Refute it at one input. -/
def packetEncodesWrong : ChangeSpec := { name := "packetEncodes", fn := fun _ => fun
  | [d1, d2] => { results := [.lit (.bool false)], args := [d1, d2] }
  | _ => none }
def PacketEncodesWrongFalsely : Prop := packetEncodesRow.holds Tryz.pinned (OpenSpec.ofChange packetEncodesWrong)

/-- 'towncrierlaw15.PacketBack': WHATEVER THE INPUT: true; the input reads as it did. -/
def packetBackSpec : ChangeSpec := { name := "packetBack", fn := fun _ => fun
  | [d] => { results := [.lit (.bool true)], args := [d] }
  | _ => none }
def packetBackRow : OpenClaim := { program := "ythokkjdolcfhcaagreatdoor", sum := "b0b4f8d2a8764b2b53786dcddb8f918e7c6b67c46d25d93b53640e9c2246e1bb", func := "towncrier/towncrierlaw15.PacketBack", spec := "packetBack", inPlace := ["internal/reflectlite.TypeOf", "internal/reflectlite.ValueOf", "(internal/reflectlite.Value).Type", "(internal/reflectlite.Value).IsNil", "(internal/reflectlite.Value).Elem", "(internal/reflectlite.Value).Set"], unfollowed := true, recurses := true, named := ["towncrier/api.ErrMalformed", "towncrier/api.ErrShort", "towncrier/api.ErrTooLarge", "errors.errorType", "towncrier/api.ErrProtocol", "towncrier/api.ErrArgument", "towncrier/api.ErrQuota", "towncrier/api.ErrState"], apart := false, laid := [("errors.errorType", laid_errors_errorType), ("towncrier/api.ErrShort", laid_towncrier_api_ErrShort), ("towncrier/api.ErrMalformed", laid_towncrier_api_ErrMalformed), ("towncrier/api.ErrProtocol", laid_towncrier_api_ErrProtocol), ("towncrier/api.ErrTooLarge", laid_towncrier_api_ErrTooLarge), ("towncrier/api.ErrQuota", laid_towncrier_api_ErrQuota), ("towncrier/api.ErrState", laid_towncrier_api_ErrState), ("towncrier/api.ErrArgument", laid_towncrier_api_ErrArgument)] }
def PacketBackSaid : Prop := packetBackRow.holds Tryz.pinned (OpenSpec.ofChange packetBackSpec)

/-- ITS FALSE NEIGHBOUR: 'it returns false'. Refute it at one input. -/
def packetBackWrong : ChangeSpec := { name := "packetBack", fn := fun _ => fun
  | [d] => { results := [.lit (.bool false)], args := [d] }
  | _ => none }
def PacketBackWrongFalsely : Prop := packetBackRow.holds Tryz.pinned (OpenSpec.ofChange packetBackWrong)

/- THE SECOND FORM. 'bulk': how many values and letters a reading holds, each counted each time it is reached (what is shared counts as often as it is met; a slice's spare places count too). A statement '..UptoSaid' is the law's where the arguments, and the package variables that the reading takes, are together of bulk at most 1048576: NARROWER than '..Said'. Prove '..Said' where nothing that the law and all that it calls make is longer than what came in: it says more and counts as full. Else prove '..UptoSaid'. A law counts once. -/
mutual
def uptoBulk {H : Type} : DataW H → Nat
  | .lit (.string bytes) => bytes.length + 1
  | .lit _ => 1
  | .nil => 1
  | .ptr d => uptoBulk d + 1
  | .slice elems spare => uptoBulkAll elems + uptoBulkAll spare + 1
  | .agg parts => uptoBulkAll parts + 1
  | .iface _ d => uptoBulk d + 1
  | .map entries => uptoBulkEntries entries + 1
  | .held _ => 1
def uptoBulkAll {H : Type} : List (DataW H) → Nat
  | [] => 0
  | d :: r => uptoBulk d + uptoBulkAll r
def uptoBulkEntries {H : Type} : List (Lit × DataW H) → Nat
  | [] => 0
  | x :: r => uptoBulkEntry x + uptoBulkEntries r
def uptoBulkEntry {H : Type} : Lit × DataW H → Nat
  | (.string bytes, d) => bytes.length + uptoBulk d + 1
  | (_, d) => uptoBulk d + 1
 end
def uptoSmall : (H : Type) → List (DataW H) → Bool := fun _ ds => decide (uptoBulkAll ds ≤ 1048576)
def OpenSpec.upto (s : _root_.Go.ChangeSpec) : _root_.Go.OpenSpec := { _root_.Go.OpenSpec.ofChange s with cond := some uptoSmall }

/-- 'towncrierlaw34.StoreTakes', WHERE WHAT IT READS IS OF BULK AT MOST 1048576: true; the input reads as it did. -/
def storeTakesUptoRow : OpenClaim := { program := "ythokkjdolcfhcaagreatdoor", sum := "b0b4f8d2a8764b2b53786dcddb8f918e7c6b67c46d25d93b53640e9c2246e1bb", func := "towncrier/towncrierlaw34.StoreTakes", spec := "storeTakes", inPlace := ["internal/reflectlite.ValueOf", "(internal/reflectlite.Value).Type", "(internal/reflectlite.Value).IsNil", "internal/reflectlite.TypeOf", "(internal/reflectlite.Value).Elem", "(internal/reflectlite.Value).Set"], unfollowed := true, recurses := true, named := ["towncrier/api.ErrArgument", "towncrier/api.ErrTooLarge", "towncrier/api.ErrMalformed", "towncrier/api.ErrProtocol", "errors.errorType", "towncrier/api.ErrShort", "towncrier/api.ErrQuota", "towncrier/api.ErrState"], apart := false, laid := [("errors.errorType", laid_errors_errorType), ("towncrier/api.ErrShort", laid_towncrier_api_ErrShort), ("towncrier/api.ErrMalformed", laid_towncrier_api_ErrMalformed), ("towncrier/api.ErrProtocol", laid_towncrier_api_ErrProtocol), ("towncrier/api.ErrTooLarge", laid_towncrier_api_ErrTooLarge), ("towncrier/api.ErrQuota", laid_towncrier_api_ErrQuota), ("towncrier/api.ErrState", laid_towncrier_api_ErrState), ("towncrier/api.ErrArgument", laid_towncrier_api_ErrArgument)], narrowed := true }
def StoreTakesUptoSaid : Prop := storeTakesUptoRow.holds Tryz.pinned (OpenSpec.upto storeTakesSpec)

/-- 'towncrierlaw09.ConnackEncodes', WHERE WHAT IT READS IS OF BULK AT MOST 1048576: true; the input reads as it did. -/
def connackEncodesUptoRow : OpenClaim := { program := "ythokkjdolcfhcaagreatdoor", sum := "b0b4f8d2a8764b2b53786dcddb8f918e7c6b67c46d25d93b53640e9c2246e1bb", func := "towncrier/towncrierlaw09.ConnackEncodes", spec := "connackEncodes", inPlace := ["internal/reflectlite.ValueOf", "(internal/reflectlite.Value).Type", "(internal/reflectlite.Value).IsNil", "internal/reflectlite.TypeOf", "(internal/reflectlite.Value).Elem", "(internal/reflectlite.Value).Set"], unfollowed := true, recurses := true, named := ["towncrier/api.ErrTooLarge", "towncrier/api.ErrMalformed", "towncrier/api.ErrProtocol", "errors.errorType", "towncrier/api.ErrShort", "towncrier/api.ErrQuota", "towncrier/api.ErrState", "towncrier/api.ErrArgument"], apart := false, laid := [("errors.errorType", laid_errors_errorType), ("towncrier/api.ErrShort", laid_towncrier_api_ErrShort), ("towncrier/api.ErrMalformed", laid_towncrier_api_ErrMalformed), ("towncrier/api.ErrProtocol", laid_towncrier_api_ErrProtocol), ("towncrier/api.ErrTooLarge", laid_towncrier_api_ErrTooLarge), ("towncrier/api.ErrQuota", laid_towncrier_api_ErrQuota), ("towncrier/api.ErrState", laid_towncrier_api_ErrState), ("towncrier/api.ErrArgument", laid_towncrier_api_ErrArgument)], narrowed := true }
def ConnackEncodesUptoSaid : Prop := connackEncodesUptoRow.holds Tryz.pinned (OpenSpec.upto connackEncodesSpec)

/-- 'towncrierlaw09.ConnackBack', WHERE WHAT IT READS IS OF BULK AT MOST 1048576: true; the input reads as it did. -/
def connackBackUptoRow : OpenClaim := { program := "ythokkjdolcfhcaagreatdoor", sum := "b0b4f8d2a8764b2b53786dcddb8f918e7c6b67c46d25d93b53640e9c2246e1bb", func := "towncrier/towncrierlaw09.ConnackBack", spec := "connackBack", inPlace := ["internal/reflectlite.ValueOf", "(internal/reflectlite.Value).Type", "(internal/reflectlite.Value).IsNil", "internal/reflectlite.TypeOf", "(internal/reflectlite.Value).Elem", "(internal/reflectlite.Value).Set"], unfollowed := true, recurses := true, named := ["towncrier/api.ErrTooLarge", "towncrier/api.ErrMalformed", "towncrier/api.ErrProtocol", "errors.errorType", "towncrier/api.ErrShort", "towncrier/api.ErrQuota", "towncrier/api.ErrState", "towncrier/api.ErrArgument"], apart := false, laid := [("errors.errorType", laid_errors_errorType), ("towncrier/api.ErrShort", laid_towncrier_api_ErrShort), ("towncrier/api.ErrMalformed", laid_towncrier_api_ErrMalformed), ("towncrier/api.ErrProtocol", laid_towncrier_api_ErrProtocol), ("towncrier/api.ErrTooLarge", laid_towncrier_api_ErrTooLarge), ("towncrier/api.ErrQuota", laid_towncrier_api_ErrQuota), ("towncrier/api.ErrState", laid_towncrier_api_ErrState), ("towncrier/api.ErrArgument", laid_towncrier_api_ErrArgument)], narrowed := true }
def ConnackBackUptoSaid : Prop := connackBackUptoRow.holds Tryz.pinned (OpenSpec.upto connackBackSpec)

/-- 'towncrierlaw11.AckEncodes', WHERE WHAT IT READS IS OF BULK AT MOST 1048576: true; the input reads as it did. -/
def ackEncodesUptoRow : OpenClaim := { program := "ythokkjdolcfhcaagreatdoor", sum := "b0b4f8d2a8764b2b53786dcddb8f918e7c6b67c46d25d93b53640e9c2246e1bb", func := "towncrier/towncrierlaw11.AckEncodes", spec := "ackEncodes", inPlace := ["internal/reflectlite.ValueOf", "(internal/reflectlite.Value).Type", "(internal/reflectlite.Value).IsNil", "internal/reflectlite.TypeOf", "(internal/reflectlite.Value).Elem", "(internal/reflectlite.Value).Set"], unfollowed := true, recurses := true, named := ["towncrier/api.ErrArgument", "towncrier/api.ErrTooLarge", "towncrier/api.ErrMalformed", "towncrier/api.ErrProtocol", "errors.errorType", "towncrier/api.ErrShort", "towncrier/api.ErrQuota", "towncrier/api.ErrState"], apart := false, laid := [("errors.errorType", laid_errors_errorType), ("towncrier/api.ErrShort", laid_towncrier_api_ErrShort), ("towncrier/api.ErrMalformed", laid_towncrier_api_ErrMalformed), ("towncrier/api.ErrProtocol", laid_towncrier_api_ErrProtocol), ("towncrier/api.ErrTooLarge", laid_towncrier_api_ErrTooLarge), ("towncrier/api.ErrQuota", laid_towncrier_api_ErrQuota), ("towncrier/api.ErrState", laid_towncrier_api_ErrState), ("towncrier/api.ErrArgument", laid_towncrier_api_ErrArgument)], narrowed := true }
def AckEncodesUptoSaid : Prop := ackEncodesUptoRow.holds Tryz.pinned (OpenSpec.upto ackEncodesSpec)

/-- 'towncrierlaw12.SubscribeBack', WHERE WHAT IT READS IS OF BULK AT MOST 1048576: true; the input reads as it did. -/
def subscribeBackUptoRow : OpenClaim := { program := "ythokkjdolcfhcaagreatdoor", sum := "b0b4f8d2a8764b2b53786dcddb8f918e7c6b67c46d25d93b53640e9c2246e1bb", func := "towncrier/towncrierlaw12.SubscribeBack", spec := "subscribeBack", inPlace := ["internal/reflectlite.ValueOf", "(internal/reflectlite.Value).Type", "(internal/reflectlite.Value).IsNil", "internal/reflectlite.TypeOf", "(internal/reflectlite.Value).Elem", "(internal/reflectlite.Value).Set"], unfollowed := true, recurses := true, named := ["towncrier/api.ErrArgument", "towncrier/api.ErrTooLarge", "towncrier/api.ErrMalformed", "towncrier/api.ErrProtocol", "errors.errorType", "towncrier/api.ErrShort"], apart := false, laid := [("errors.errorType", laid_errors_errorType), ("towncrier/api.ErrShort", laid_towncrier_api_ErrShort), ("towncrier/api.ErrMalformed", laid_towncrier_api_ErrMalformed), ("towncrier/api.ErrProtocol", laid_towncrier_api_ErrProtocol), ("towncrier/api.ErrTooLarge", laid_towncrier_api_ErrTooLarge), ("towncrier/api.ErrArgument", laid_towncrier_api_ErrArgument)], narrowed := true }
def SubscribeBackUptoSaid : Prop := subscribeBackUptoRow.holds Tryz.pinned (OpenSpec.upto subscribeBackSpec)

/-- 'towncrierlaw14.MiscEncodes', WHERE WHAT IT READS IS OF BULK AT MOST 1048576: true; the input reads as it did. -/
def miscEncodesUptoRow : OpenClaim := { program := "ythokkjdolcfhcaagreatdoor", sum := "b0b4f8d2a8764b2b53786dcddb8f918e7c6b67c46d25d93b53640e9c2246e1bb", func := "towncrier/towncrierlaw14.MiscEncodes", spec := "miscEncodes", inPlace := ["internal/reflectlite.ValueOf", "(internal/reflectlite.Value).Type", "(internal/reflectlite.Value).IsNil", "internal/reflectlite.TypeOf", "(internal/reflectlite.Value).Elem", "(internal/reflectlite.Value).Set"], unfollowed := true, recurses := true, named := ["towncrier/api.ErrArgument", "towncrier/api.ErrTooLarge", "towncrier/api.ErrMalformed", "towncrier/api.ErrProtocol", "errors.errorType", "towncrier/api.ErrShort", "towncrier/api.ErrQuota", "towncrier/api.ErrState"], apart := false, laid := [("errors.errorType", laid_errors_errorType), ("towncrier/api.ErrShort", laid_towncrier_api_ErrShort), ("towncrier/api.ErrMalformed", laid_towncrier_api_ErrMalformed), ("towncrier/api.ErrProtocol", laid_towncrier_api_ErrProtocol), ("towncrier/api.ErrTooLarge", laid_towncrier_api_ErrTooLarge), ("towncrier/api.ErrQuota", laid_towncrier_api_ErrQuota), ("towncrier/api.ErrState", laid_towncrier_api_ErrState), ("towncrier/api.ErrArgument", laid_towncrier_api_ErrArgument)], narrowed := true }
def MiscEncodesUptoSaid : Prop := miscEncodesUptoRow.holds Tryz.pinned (OpenSpec.upto miscEncodesSpec)

/-- 'towncrierlaw14.MiscBack', WHERE WHAT IT READS IS OF BULK AT MOST 1048576: true; the input reads as it did. -/
def miscBackUptoRow : OpenClaim := { program := "ythokkjdolcfhcaagreatdoor", sum := "b0b4f8d2a8764b2b53786dcddb8f918e7c6b67c46d25d93b53640e9c2246e1bb", func := "towncrier/towncrierlaw14.MiscBack", spec := "miscBack", inPlace := ["internal/reflectlite.ValueOf", "(internal/reflectlite.Value).Type", "(internal/reflectlite.Value).IsNil", "internal/reflectlite.TypeOf", "(internal/reflectlite.Value).Elem", "(internal/reflectlite.Value).Set"], unfollowed := true, recurses := true, named := ["towncrier/api.ErrArgument", "towncrier/api.ErrTooLarge", "towncrier/api.ErrMalformed", "towncrier/api.ErrProtocol", "errors.errorType", "towncrier/api.ErrShort", "towncrier/api.ErrQuota", "towncrier/api.ErrState"], apart := false, laid := [("errors.errorType", laid_errors_errorType), ("towncrier/api.ErrShort", laid_towncrier_api_ErrShort), ("towncrier/api.ErrMalformed", laid_towncrier_api_ErrMalformed), ("towncrier/api.ErrProtocol", laid_towncrier_api_ErrProtocol), ("towncrier/api.ErrTooLarge", laid_towncrier_api_ErrTooLarge), ("towncrier/api.ErrQuota", laid_towncrier_api_ErrQuota), ("towncrier/api.ErrState", laid_towncrier_api_ErrState), ("towncrier/api.ErrArgument", laid_towncrier_api_ErrArgument)], narrowed := true }
def MiscBackUptoSaid : Prop := miscBackUptoRow.holds Tryz.pinned (OpenSpec.upto miscBackSpec)

/-- 'towncrierlaw13.UnsubEncodes', WHERE WHAT IT READS IS OF BULK AT MOST 1048576: true; the input reads as it did. -/
def unsubEncodesUptoRow : OpenClaim := { program := "ythokkjdolcfhcaagreatdoor", sum := "b0b4f8d2a8764b2b53786dcddb8f918e7c6b67c46d25d93b53640e9c2246e1bb", func := "towncrier/towncrierlaw13.UnsubEncodes", spec := "unsubEncodes", inPlace := ["internal/reflectlite.ValueOf", "(internal/reflectlite.Value).Type", "(internal/reflectlite.Value).IsNil", "internal/reflectlite.TypeOf", "(internal/reflectlite.Value).Elem", "(internal/reflectlite.Value).Set"], unfollowed := true, recurses := true, named := ["towncrier/api.ErrArgument", "towncrier/api.ErrTooLarge", "towncrier/api.ErrMalformed", "towncrier/api.ErrProtocol", "errors.errorType", "towncrier/api.ErrShort", "towncrier/api.ErrQuota", "towncrier/api.ErrState"], apart := false, laid := [("errors.errorType", laid_errors_errorType), ("towncrier/api.ErrShort", laid_towncrier_api_ErrShort), ("towncrier/api.ErrMalformed", laid_towncrier_api_ErrMalformed), ("towncrier/api.ErrProtocol", laid_towncrier_api_ErrProtocol), ("towncrier/api.ErrTooLarge", laid_towncrier_api_ErrTooLarge), ("towncrier/api.ErrQuota", laid_towncrier_api_ErrQuota), ("towncrier/api.ErrState", laid_towncrier_api_ErrState), ("towncrier/api.ErrArgument", laid_towncrier_api_ErrArgument)], narrowed := true }
def UnsubEncodesUptoSaid : Prop := unsubEncodesUptoRow.holds Tryz.pinned (OpenSpec.upto unsubEncodesSpec)

/-- 'towncrierlaw12.SubscribeEncodes', WHERE WHAT IT READS IS OF BULK AT MOST 1048576: true; the input reads as it did. -/
def subscribeEncodesUptoRow : OpenClaim := { program := "ythokkjdolcfhcaagreatdoor", sum := "b0b4f8d2a8764b2b53786dcddb8f918e7c6b67c46d25d93b53640e9c2246e1bb", func := "towncrier/towncrierlaw12.SubscribeEncodes", spec := "subscribeEncodes", inPlace := ["internal/reflectlite.ValueOf", "(internal/reflectlite.Value).Type", "(internal/reflectlite.Value).IsNil", "internal/reflectlite.TypeOf", "(internal/reflectlite.Value).Elem", "(internal/reflectlite.Value).Set"], unfollowed := true, recurses := true, named := ["towncrier/api.ErrArgument", "towncrier/api.ErrTooLarge", "towncrier/api.ErrMalformed", "towncrier/api.ErrProtocol", "errors.errorType", "towncrier/api.ErrShort", "towncrier/api.ErrQuota", "towncrier/api.ErrState"], apart := false, laid := [("errors.errorType", laid_errors_errorType), ("towncrier/api.ErrShort", laid_towncrier_api_ErrShort), ("towncrier/api.ErrMalformed", laid_towncrier_api_ErrMalformed), ("towncrier/api.ErrProtocol", laid_towncrier_api_ErrProtocol), ("towncrier/api.ErrTooLarge", laid_towncrier_api_ErrTooLarge), ("towncrier/api.ErrQuota", laid_towncrier_api_ErrQuota), ("towncrier/api.ErrState", laid_towncrier_api_ErrState), ("towncrier/api.ErrArgument", laid_towncrier_api_ErrArgument)], narrowed := true }
def SubscribeEncodesUptoSaid : Prop := subscribeEncodesUptoRow.holds Tryz.pinned (OpenSpec.upto subscribeEncodesSpec)

/-- 'towncrierlaw15.PacketEncodes', WHERE WHAT IT READS IS OF BULK AT MOST 1048576: true; the input reads as it did. -/
def packetEncodesUptoRow : OpenClaim := { program := "ythokkjdolcfhcaagreatdoor", sum := "b0b4f8d2a8764b2b53786dcddb8f918e7c6b67c46d25d93b53640e9c2246e1bb", func := "towncrier/towncrierlaw15.PacketEncodes", spec := "packetEncodes", inPlace := ["internal/reflectlite.TypeOf", "internal/reflectlite.ValueOf", "(internal/reflectlite.Value).Type", "(internal/reflectlite.Value).IsNil", "(internal/reflectlite.Value).Elem", "(internal/reflectlite.Value).Set"], unfollowed := true, recurses := true, named := ["towncrier/api.ErrMalformed", "towncrier/api.ErrShort", "towncrier/api.ErrTooLarge", "errors.errorType", "towncrier/api.ErrProtocol", "towncrier/api.ErrArgument", "towncrier/api.ErrQuota", "towncrier/api.ErrState"], apart := false, laid := [("errors.errorType", laid_errors_errorType), ("towncrier/api.ErrShort", laid_towncrier_api_ErrShort), ("towncrier/api.ErrMalformed", laid_towncrier_api_ErrMalformed), ("towncrier/api.ErrProtocol", laid_towncrier_api_ErrProtocol), ("towncrier/api.ErrTooLarge", laid_towncrier_api_ErrTooLarge), ("towncrier/api.ErrQuota", laid_towncrier_api_ErrQuota), ("towncrier/api.ErrState", laid_towncrier_api_ErrState), ("towncrier/api.ErrArgument", laid_towncrier_api_ErrArgument)], narrowed := true }
def PacketEncodesUptoSaid : Prop := packetEncodesUptoRow.holds Tryz.pinned (OpenSpec.upto packetEncodesSpec)

/-- 'towncrierlaw15.PacketBack', WHERE WHAT IT READS IS OF BULK AT MOST 1048576: true; the input reads as it did. -/
def packetBackUptoRow : OpenClaim := { program := "ythokkjdolcfhcaagreatdoor", sum := "b0b4f8d2a8764b2b53786dcddb8f918e7c6b67c46d25d93b53640e9c2246e1bb", func := "towncrier/towncrierlaw15.PacketBack", spec := "packetBack", inPlace := ["internal/reflectlite.TypeOf", "internal/reflectlite.ValueOf", "(internal/reflectlite.Value).Type", "(internal/reflectlite.Value).IsNil", "(internal/reflectlite.Value).Elem", "(internal/reflectlite.Value).Set"], unfollowed := true, recurses := true, named := ["towncrier/api.ErrMalformed", "towncrier/api.ErrShort", "towncrier/api.ErrTooLarge", "errors.errorType", "towncrier/api.ErrProtocol", "towncrier/api.ErrArgument", "towncrier/api.ErrQuota", "towncrier/api.ErrState"], apart := false, laid := [("errors.errorType", laid_errors_errorType), ("towncrier/api.ErrShort", laid_towncrier_api_ErrShort), ("towncrier/api.ErrMalformed", laid_towncrier_api_ErrMalformed), ("towncrier/api.ErrProtocol", laid_towncrier_api_ErrProtocol), ("towncrier/api.ErrTooLarge", laid_towncrier_api_ErrTooLarge), ("towncrier/api.ErrQuota", laid_towncrier_api_ErrQuota), ("towncrier/api.ErrState", laid_towncrier_api_ErrState), ("towncrier/api.ErrArgument", laid_towncrier_api_ErrArgument)], narrowed := true }
def PacketBackUptoSaid : Prop := packetBackUptoRow.holds Tryz.pinned (OpenSpec.upto packetBackSpec)

end Rows
end Go.Proofs.YthokkjdolcfhcaaGreatDoor
