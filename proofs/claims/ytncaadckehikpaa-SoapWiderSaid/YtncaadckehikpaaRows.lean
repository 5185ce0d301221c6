/-
  No cell of these rows narrows 'for every input' (looked for: loops, veiled, ifaces, maps, wideKeys, modest, calm, conditions, laid).
  DERIVED. THE GIVEN ROWS OF THIS SEAT. 17 by the template 'for every input the law returns true; each argument reads behind the call as it read before'; 0 by the template 'total and deterministic' (their statements: YtncaadckehikpaaTotals.lean).
  GIVEN WITH THE SEED: the statements are not yours to turn. If you find one false, say at which input.
  Laid BY PROGRAM, IN A SANDBOX (cutbox-rows.mjs): the forced cells as the released guide's own fill.sh prints them over the translation 03f4852acc4c97fd… (all of the seat's roots in one cut). By AI agents, Wed Nov 11 2026. No macro, syntax, notation, axiom, sorry.
-/
import Derived.Test.YtncaadckehikpaaChecked
import GoSem.Claim
import GoSem.ClaimJoined
import GoSem.ClaimMapViews
import Derived.JoinedTies
import Derived.KernelRfl
namespace Go.Proofs.Ytncaadckehikpaa
/- THE CELL 'sum', in the pinned program and in every row, IS THE sha256 OF THE DUMP (.gsa) THAT YtncaadckehikpaaProg.lean LOADS. Nothing in Lean hashes anything: it is a label: what it is worth is what the hold of that sum in a sandbox is worth. -/
noncomputable def Try.pinned : Pinned := { name := "ytncaadckehikpaa", sum := "03f4852acc4c97fd01d5fa8c2ead5946a0c3b9776e451baa5ef15cf951ee7ac5", checked := Try.checked }
namespace Rows
def none {H : Type} : Left H := { results := [], args := [] }

/-- 'posserlaw08.SoapBounds': WHATEVER THE INPUT: true; the input reads as it did. -/
def soapBoundsSpec : ChangeSpec := { name := "soapBounds", fn := fun _ => fun
  | [d] => { results := [.lit (.bool true)], args := [d] }
  | _ => none }
def soapBoundsRow : OpenClaim := { program := "ytncaadckehikpaa", sum := "03f4852acc4c97fd01d5fa8c2ead5946a0c3b9776e451baa5ef15cf951ee7ac5", func := "posser/posserlaw08.SoapBounds", spec := "soapBounds", unfollowed := true, recurses := true, plainKeys := false, apart := false }
def SoapBoundsSaid : Prop := soapBoundsRow.holds Try.pinned (OpenSpec.ofChange soapBoundsSpec)

/-- ITS FALSE NEIGHBOUR: 'it returns false'. Refute it at one input. -/
def soapBoundsWrong : ChangeSpec := { name := "soapBounds", fn := fun _ => fun
  | [d] => { results := [.lit (.bool false)], args := [d] }
  | _ => none }
def SoapBoundsWrongFalsely : Prop := soapBoundsRow.holds Try.pinned (OpenSpec.ofChange soapBoundsWrong)

/-- 'posserlaw08.SoapGroups': WHATEVER THE INPUT: true; the input reads as it did. -/
def soapGroupsSpec : ChangeSpec := { name := "soapGroups", fn := fun _ => fun
  | [d1, d2] => { results := [.lit (.bool true)], args := [d1, d2] }
  | _ => none }
def soapGroupsRow : OpenClaim := { program := "ytncaadckehikpaa", sum := "03f4852acc4c97fd01d5fa8c2ead5946a0c3b9776e451baa5ef15cf951ee7ac5", func := "posser/posserlaw08.SoapGroups", spec := "soapGroups", unfollowed := true, recurses := true, plainKeys := false, apart := false }
def SoapGroupsSaid : Prop := soapGroupsRow.holds Try.pinned (OpenSpec.ofChange soapGroupsSpec)

/-- ITS FALSE NEIGHBOUR: 'it returns false'. Refute it at one input. -/
def soapGroupsWrong : ChangeSpec := { name := "soapGroups", fn := fun _ => fun
  | [d1, d2] => { results := [.lit (.bool false)], args := [d1, d2] }
  | _ => none }
def SoapGroupsWrongFalsely : Prop := soapGroupsRow.holds Try.pinned (OpenSpec.ofChange soapGroupsWrong)

/-- 'posserlaw08.SoapFewest': WHATEVER THE INPUT: true; the input reads as it did. -/
def soapFewestSpec : ChangeSpec := { name := "soapFewest", fn := fun _ => fun
  | [d] => { results := [.lit (.bool true)], args := [d] }
  | _ => none }
def soapFewestRow : OpenClaim := { program := "ytncaadckehikpaa", sum := "03f4852acc4c97fd01d5fa8c2ead5946a0c3b9776e451baa5ef15cf951ee7ac5", func := "posser/posserlaw08.SoapFewest", spec := "soapFewest", unfollowed := true, recurses := true, plainKeys := false, apart := false }
def SoapFewestSaid : Prop := soapFewestRow.holds Try.pinned (OpenSpec.ofChange soapFewestSpec)

/-- ITS FALSE NEIGHBOUR: 'it returns false'. Refute it at one input. -/
def soapFewestWrong : ChangeSpec := { name := "soapFewest", fn := fun _ => fun
  | [d] => { results := [.lit (.bool false)], args := [d] }
  | _ => none }
def SoapFewestWrongFalsely : Prop := soapFewestRow.holds Try.pinned (OpenSpec.ofChange soapFewestWrong)

/-- 'posserlaw08.SoapLeaves': WHATEVER THE INPUT: true; the input reads as it did. -/
def soapLeavesSpec : ChangeSpec := { name := "soapLeaves", fn := fun _ => fun
  | [d] => { results := [.lit (.bool true)], args := [d] }
  | _ => none }
def soapLeavesRow : OpenClaim := { program := "ytncaadckehikpaa", sum := "03f4852acc4c97fd01d5fa8c2ead5946a0c3b9776e451baa5ef15cf951ee7ac5", func := "posser/posserlaw08.SoapLeaves", spec := "soapLeaves", unfollowed := true, recurses := true, plainKeys := false, apart := false }
def SoapLeavesSaid : Prop := soapLeavesRow.holds Try.pinned (OpenSpec.ofChange soapLeavesSpec)

/-- ITS FALSE NEIGHBOUR: 'it returns false'. Refute it at one input. -/
def soapLeavesWrong : ChangeSpec := { name := "soapLeaves", fn := fun _ => fun
  | [d] => { results := [.lit (.bool false)], args := [d] }
  | _ => none }
def SoapLeavesWrongFalsely : Prop := soapLeavesRow.holds Try.pinned (OpenSpec.ofChange soapLeavesWrong)

/-- 'posserlaw08.SoapLost': WHATEVER THE INPUT: true; the input reads as it did. -/
def soapLostSpec : ChangeSpec := { name := "soapLost", fn := fun _ => fun
  | [d1, d2] => { results := [.lit (.bool true)], args := [d1, d2] }
  | _ => none }
def soapLostRow : OpenClaim := { program := "ytncaadckehikpaa", sum := "03f4852acc4c97fd01d5fa8c2ead5946a0c3b9776e451baa5ef15cf951ee7ac5", func := "posser/posserlaw08.SoapLost", spec := "soapLost", unfollowed := true, recurses := true, plainKeys := false, apart := false }
def SoapLostSaid : Prop := soapLostRow.holds Try.pinned (OpenSpec.ofChange soapLostSpec)

/-- ITS FALSE NEIGHBOUR: 'it returns false'. Refute it at one input. -/
def soapLostWrong : ChangeSpec := { name := "soapLost", fn := fun _ => fun
  | [d1, d2] => { results := [.lit (.bool false)], args := [d1, d2] }
  | _ => none }
def SoapLostWrongFalsely : Prop := soapLostRow.holds Try.pinned (OpenSpec.ofChange soapLostWrong)

/-- 'posserlaw08.SoapEnds': WHATEVER THE INPUT: true; the input reads as it did. -/
def soapEndsSpec : ChangeSpec := { name := "soapEnds", fn := fun _ => fun
  | [d1, d2] => { results := [.lit (.bool true)], args := [d1, d2] }
  | _ => none }
def soapEndsRow : OpenClaim := { program := "ytncaadckehikpaa", sum := "03f4852acc4c97fd01d5fa8c2ead5946a0c3b9776e451baa5ef15cf951ee7ac5", func := "posser/posserlaw08.SoapEnds", spec := "soapEnds", unfollowed := true, recurses := true, plainKeys := false, apart := false }
def SoapEndsSaid : Prop := soapEndsRow.holds Try.pinned (OpenSpec.ofChange soapEndsSpec)

/-- ITS FALSE NEIGHBOUR: 'it returns false'. Refute it at one input. -/
def soapEndsWrong : ChangeSpec := { name := "soapEnds", fn := fun _ => fun
  | [d1, d2] => { results := [.lit (.bool false)], args := [d1, d2] }
  | _ => none }
def SoapEndsWrongFalsely : Prop := soapEndsRow.holds Try.pinned (OpenSpec.ofChange soapEndsWrong)

/-- 'posserlaw08.SoapNoFewer': WHATEVER THE INPUT: true; the input reads as it did. -/
def soapNoFewerSpec : ChangeSpec := { name := "soapNoFewer", fn := fun _ => fun
  | [d1, d2, d3] => { results := [.lit (.bool true)], args := [d1, d2, d3] }
  | _ => none }
def soapNoFewerRow : OpenClaim := { program := "ytncaadckehikpaa", sum := "03f4852acc4c97fd01d5fa8c2ead5946a0c3b9776e451baa5ef15cf951ee7ac5", func := "posser/posserlaw08.SoapNoFewer", spec := "soapNoFewer", unfollowed := true, recurses := true, plainKeys := false, apart := false }
def SoapNoFewerSaid : Prop := soapNoFewerRow.holds Try.pinned (OpenSpec.ofChange soapNoFewerSpec)

/-- ITS FALSE NEIGHBOUR: 'it returns false'. Refute it at one input. -/
def soapNoFewerWrong : ChangeSpec := { name := "soapNoFewer", fn := fun _ => fun
  | [d1, d2, d3] => { results := [.lit (.bool false)], args := [d1, d2, d3] }
  | _ => none }
def SoapNoFewerWrongFalsely : Prop := soapNoFewerRow.holds Try.pinned (OpenSpec.ofChange soapNoFewerWrong)

/-- 'posserlaw08.SoapApart': WHATEVER THE INPUT: true; the input reads as it did. -/
def soapApartSpec : ChangeSpec := { name := "soapApart", fn := fun _ => fun
  | [d1, d2] => { results := [.lit (.bool true)], args := [d1, d2] }
  | _ => none }
def soapApartRow : OpenClaim := { program := "ytncaadckehikpaa", sum := "03f4852acc4c97fd01d5fa8c2ead5946a0c3b9776e451baa5ef15cf951ee7ac5", func := "posser/posserlaw08.SoapApart", spec := "soapApart", unfollowed := true, recurses := true, plainKeys := false, apart := false }
def SoapApartSaid : Prop := soapApartRow.holds Try.pinned (OpenSpec.ofChange soapApartSpec)

/-- ITS FALSE NEIGHBOUR: 'it returns false'. Refute it at one input. -/
def soapApartWrong : ChangeSpec := { name := "soapApart", fn := fun _ => fun
  | [d1, d2] => { results := [.lit (.bool false)], args := [d1, d2] }
  | _ => none }
def SoapApartWrongFalsely : Prop := soapApartRow.holds Try.pinned (OpenSpec.ofChange soapApartWrong)

/-- 'posserlaw08.SoapPaid': WHATEVER THE INPUT: true; the input reads as it did. -/
def soapPaidSpec : ChangeSpec := { name := "soapPaid", fn := fun _ => fun
  | [d1, d2, d3] => { results := [.lit (.bool true)], args := [d1, d2, d3] }
  | _ => none }
def soapPaidRow : OpenClaim := { program := "ytncaadckehikpaa", sum := "03f4852acc4c97fd01d5fa8c2ead5946a0c3b9776e451baa5ef15cf951ee7ac5", func := "posser/posserlaw08.SoapPaid", spec := "soapPaid", unfollowed := true, recurses := true, plainKeys := false, apart := false }
def SoapPaidSaid : Prop := soapPaidRow.holds Try.pinned (OpenSpec.ofChange soapPaidSpec)

/-- ITS FALSE NEIGHBOUR: 'it returns false'. Refute it at one input. -/
def soapPaidWrong : ChangeSpec := { name := "soapPaid", fn := fun _ => fun
  | [d1, d2, d3] => { results := [.lit (.bool false)], args := [d1, d2, d3] }
  | _ => none }
def SoapPaidWrongFalsely : Prop := soapPaidRow.holds Try.pinned (OpenSpec.ofChange soapPaidWrong)

/-- 'posserlaw08.SoapOrder': WHATEVER THE INPUT: true; the input reads as it did. -/
def soapOrderSpec : ChangeSpec := { name := "soapOrder", fn := fun _ => fun
  | [d1, d2, d3] => { results := [.lit (.bool true)], args := [d1, d2, d3] }
  | _ => none }
def soapOrderRow : OpenClaim := { program := "ytncaadckehikpaa", sum := "03f4852acc4c97fd01d5fa8c2ead5946a0c3b9776e451baa5ef15cf951ee7ac5", func := "posser/posserlaw08.SoapOrder", spec := "soapOrder", unfollowed := true, recurses := true, plainKeys := false, apart := false }
def SoapOrderSaid : Prop := soapOrderRow.holds Try.pinned (OpenSpec.ofChange soapOrderSpec)

/-- ITS FALSE NEIGHBOUR: 'it returns false'. Refute it at one input. -/
def soapOrderWrong : ChangeSpec := { name := "soapOrder", fn := fun _ => fun
  | [d1, d2, d3] => { results := [.lit (.bool false)], args := [d1, d2, d3] }
  | _ => none }
def SoapOrderWrongFalsely : Prop := soapOrderRow.holds Try.pinned (OpenSpec.ofChange soapOrderWrong)

/-- 'posserlaw08.SoapMore': WHATEVER THE INPUT: true; the input reads as it did. -/
def soapMoreSpec : ChangeSpec := { name := "soapMore", fn := fun _ => fun
  | [d1, d2] => { results := [.lit (.bool true)], args := [d1, d2] }
  | _ => none }
def soapMoreRow : OpenClaim := { program := "ytncaadckehikpaa", sum := "03f4852acc4c97fd01d5fa8c2ead5946a0c3b9776e451baa5ef15cf951ee7ac5", func := "posser/posserlaw08.SoapMore", spec := "soapMore", unfollowed := true, recurses := true, plainKeys := false, apart := false }
def SoapMoreSaid : Prop := soapMoreRow.holds Try.pinned (OpenSpec.ofChange soapMoreSpec)

/-- ITS FALSE NEIGHBOUR: 'it returns false'. Refute it at one input. -/
def soapMoreWrong : ChangeSpec := { name := "soapMore", fn := fun _ => fun
  | [d1, d2] => { results := [.lit (.bool false)], args := [d1, d2] }
  | _ => none }
def SoapMoreWrongFalsely : Prop := soapMoreRow.holds Try.pinned (OpenSpec.ofChange soapMoreWrong)

/-- 'posserlaw08.SoapWider': WHATEVER THE INPUT: true; the input reads as it did. -/
def soapWiderSpec : ChangeSpec := { name := "soapWider", fn := fun _ => fun
  | [d1, d2, d3] => { results := [.lit (.bool true)], args := [d1, d2, d3] }
  | _ => none }
def soapWiderRow : OpenClaim := { program := "ytncaadckehikpaa", sum := "03f4852acc4c97fd01d5fa8c2ead5946a0c3b9776e451baa5ef15cf951ee7ac5", func := "posser/posserlaw08.SoapWider", spec := "soapWider", unfollowed := true, recurses := true, plainKeys := false, apart := false }
def SoapWiderSaid : Prop := soapWiderRow.holds Try.pinned (OpenSpec.ofChange soapWiderSpec)

/-- ITS FALSE NEIGHBOUR: 'it returns false'. Refute it at one input. -/
def soapWiderWrong : ChangeSpec := { name := "soapWider", fn := fun _ => fun
  | [d1, d2, d3] => { results := [.lit (.bool false)], args := [d1, d2, d3] }
  | _ => none }
def SoapWiderWrongFalsely : Prop := soapWiderRow.holds Try.pinned (OpenSpec.ofChange soapWiderWrong)

/-- 'posserlaw08.SoapFirst': WHATEVER THE INPUT: true; the input reads as it did. -/
def soapFirstSpec : ChangeSpec := { name := "soapFirst", fn := fun _ => fun
  | [d] => { results := [.lit (.bool true)], args := [d] }
  | _ => none }
def soapFirstRow : OpenClaim := { program := "ytncaadckehikpaa", sum := "03f4852acc4c97fd01d5fa8c2ead5946a0c3b9776e451baa5ef15cf951ee7ac5", func := "posser/posserlaw08.SoapFirst", spec := "soapFirst", unfollowed := true, recurses := true, plainKeys := false, apart := false }
def SoapFirstSaid : Prop := soapFirstRow.holds Try.pinned (OpenSpec.ofChange soapFirstSpec)

/-- ITS FALSE NEIGHBOUR: 'it returns false'. Refute it at one input. -/
def soapFirstWrong : ChangeSpec := { name := "soapFirst", fn := fun _ => fun
  | [d] => { results := [.lit (.bool false)], args := [d] }
  | _ => none }
def SoapFirstWrongFalsely : Prop := soapFirstRow.holds Try.pinned (OpenSpec.ofChange soapFirstWrong)

/-- 'posserlaw08.SoapLeft': WHATEVER THE INPUT: true; the input reads as it did. -/
def soapLeftSpec : ChangeSpec := { name := "soapLeft", fn := fun _ => fun
  | [d1, d2] => { results := [.lit (.bool true)], args := [d1, d2] }
  | _ => none }
def soapLeftRow : OpenClaim := { program := "ytncaadckehikpaa", sum := "03f4852acc4c97fd01d5fa8c2ead5946a0c3b9776e451baa5ef15cf951ee7ac5", func := "posser/posserlaw08.SoapLeft", spec := "soapLeft", unfollowed := true, recurses := true, plainKeys := false, apart := false }
def SoapLeftSaid : Prop := soapLeftRow.holds Try.pinned (OpenSpec.ofChange soapLeftSpec)

/-- ITS FALSE NEIGHBOUR: 'it returns false'. Refute it at one input. -/
def soapLeftWrong : ChangeSpec := { name := "soapLeft", fn := fun _ => fun
  | [d1, d2] => { results := [.lit (.bool false)], args := [d1, d2] }
  | _ => none }
def SoapLeftWrongFalsely : Prop := soapLeftRow.holds Try.pinned (OpenSpec.ofChange soapLeftWrong)

/-- 'posserlaw08.SoapPlays': WHATEVER THE INPUT: true; the input reads as it did. -/
def soapPlaysSpec : ChangeSpec := { name := "soapPlays", fn := fun _ => fun
  | [d1, d2] => { results := [.lit (.bool true)], args := [d1, d2] }
  | _ => none }
def soapPlaysRow : OpenClaim := { program := "ytncaadckehikpaa", sum := "03f4852acc4c97fd01d5fa8c2ead5946a0c3b9776e451baa5ef15cf951ee7ac5", func := "posser/posserlaw08.SoapPlays", spec := "soapPlays", unfollowed := true, recurses := true, plainKeys := false, apart := false }
def SoapPlaysSaid : Prop := soapPlaysRow.holds Try.pinned (OpenSpec.ofChange soapPlaysSpec)

/-- ITS FALSE NEIGHBOUR: 'it returns false'. Refute it at one input. -/
def soapPlaysWrong : ChangeSpec := { name := "soapPlays", fn := fun _ => fun
  | [d1, d2] => { results := [.lit (.bool false)], args := [d1, d2] }
  | _ => none }
def SoapPlaysWrongFalsely : Prop := soapPlaysRow.holds Try.pinned (OpenSpec.ofChange soapPlaysWrong)

/-- 'posserlaw08.SoapTruth': WHATEVER THE INPUT: true; the input reads as it did. -/
def soapTruthSpec : ChangeSpec := { name := "soapTruth", fn := fun _ => fun
  | [d1, d2, d3] => { results := [.lit (.bool true)], args := [d1, d2, d3] }
  | _ => none }
def soapTruthRow : OpenClaim := { program := "ytncaadckehikpaa", sum := "03f4852acc4c97fd01d5fa8c2ead5946a0c3b9776e451baa5ef15cf951ee7ac5", func := "posser/posserlaw08.SoapTruth", spec := "soapTruth", unfollowed := true, recurses := true, plainKeys := false, apart := false }
def SoapTruthSaid : Prop := soapTruthRow.holds Try.pinned (OpenSpec.ofChange soapTruthSpec)

/-- ITS FALSE NEIGHBOUR: 'it returns false'. Refute it at one input. -/
def soapTruthWrong : ChangeSpec := { name := "soapTruth", fn := fun _ => fun
  | [d1, d2, d3] => { results := [.lit (.bool false)], args := [d1, d2, d3] }
  | _ => none }
def SoapTruthWrongFalsely : Prop := soapTruthRow.holds Try.pinned (OpenSpec.ofChange soapTruthWrong)

/-- 'posserlaw08.SoapSettles': WHATEVER THE INPUT: true; the input reads as it did. -/
def soapSettlesSpec : ChangeSpec := { name := "soapSettles", fn := fun _ => fun
  | [d1, d2, d3, d4] => { results := [.lit (.bool true)], args := [d1, d2, d3, d4] }
  | _ => none }
def soapSettlesRow : OpenClaim := { program := "ytncaadckehikpaa", sum := "03f4852acc4c97fd01d5fa8c2ead5946a0c3b9776e451baa5ef15cf951ee7ac5", func := "posser/posserlaw08.SoapSettles", spec := "soapSettles", unfollowed := true, recurses := true, plainKeys := false, apart := false }
def SoapSettlesSaid : Prop := soapSettlesRow.holds Try.pinned (OpenSpec.ofChange soapSettlesSpec)

/-- ITS FALSE NEIGHBOUR: 'it returns false'. Refute it at one input. -/
def soapSettlesWrong : ChangeSpec := { name := "soapSettles", fn := fun _ => fun
  | [d1, d2, d3, d4] => { results := [.lit (.bool false)], args := [d1, d2, d3, d4] }
  | _ => none }
def SoapSettlesWrongFalsely : Prop := soapSettlesRow.holds Try.pinned (OpenSpec.ofChange soapSettlesWrong)

/- THE SECOND FORM. 'bulk': how many values and letters a reading holds, each counted each time it is reached (what is shared counts as often as it is met; a slice's spare places count too). A statement '..UptoSaid' is the law's where the arguments, and the package variables that the reading takes, are together of bulk at most 1048576: NARROWER than '..Said'. Prove '..Said' where nothing that the law and all that it calls make is longer than what came in: it says more and counts as full. Else prove '..UptoSaid'. A law counts once. -/
mutual
def uptoBulk {H : Type} : DataW H → Nat
  | .lit (.string bytes) => bytes.length + 1
  | .lit _ => 1
  | .nil => 1
  | .ptr d => uptoBulk d + 1
  | .slice elems spare => uptoBulkAll elems + uptoBulkAll spare + 1
  | .agg parts => uptoBulkAll parts + 1
  | .iface _ d => uptoBulk d + 1
  | .map entries => uptoBulkEntries entries + 1
  | .held _ => 1
def uptoBulkAll {H : Type} : List (DataW H) → Nat
  | [] => 0
  | d :: r => uptoBulk d + uptoBulkAll r
def uptoBulkEntries {H : Type} : List (Lit × DataW H) → Nat
  | [] => 0
  | x :: r => uptoBulkEntry x + uptoBulkEntries r
def uptoBulkEntry {H : Type} : Lit × DataW H → Nat
  | (.string bytes, d) => bytes.length + uptoBulk d + 1
  | (_, d) => uptoBulk d + 1
 end
def uptoSmall : (H : Type) → List (DataW H) → Bool := fun _ ds => decide (uptoBulkAll ds ≤ 1048576)
def OpenSpec.upto (s : _root_.Go.ChangeSpec) : _root_.Go.OpenSpec := { _root_.Go.OpenSpec.ofChange s with cond := some uptoSmall }

/-- 'posserlaw08.SoapBounds', WHERE WHAT IT READS IS OF BULK AT MOST 1048576: true; the input reads as it did. -/
def soapBoundsUptoRow : OpenClaim := { program := "ytncaadckehikpaa", sum := "03f4852acc4c97fd01d5fa8c2ead5946a0c3b9776e451baa5ef15cf951ee7ac5", func := "posser/posserlaw08.SoapBounds", spec := "soapBounds", unfollowed := true, recurses := true, plainKeys := false, apart := false, narrowed := true }
def SoapBoundsUptoSaid : Prop := soapBoundsUptoRow.holds Try.pinned (OpenSpec.upto soapBoundsSpec)

/-- 'posserlaw08.SoapGroups', WHERE WHAT IT READS IS OF BULK AT MOST 1048576: true; the input reads as it did. -/
def soapGroupsUptoRow : OpenClaim := { program := "ytncaadckehikpaa", sum := "03f4852acc4c97fd01d5fa8c2ead5946a0c3b9776e451baa5ef15cf951ee7ac5", func := "posser/posserlaw08.SoapGroups", spec := "soapGroups", unfollowed := true, recurses := true, plainKeys := false, apart := false, narrowed := true }
def SoapGroupsUptoSaid : Prop := soapGroupsUptoRow.holds Try.pinned (OpenSpec.upto soapGroupsSpec)

/-- 'posserlaw08.SoapFewest', WHERE WHAT IT READS IS OF BULK AT MOST 1048576: true; the input reads as it did. -/
def soapFewestUptoRow : OpenClaim := { program := "ytncaadckehikpaa", sum := "03f4852acc4c97fd01d5fa8c2ead5946a0c3b9776e451baa5ef15cf951ee7ac5", func := "posser/posserlaw08.SoapFewest", spec := "soapFewest", unfollowed := true, recurses := true, plainKeys := false, apart := false, narrowed := true }
def SoapFewestUptoSaid : Prop := soapFewestUptoRow.holds Try.pinned (OpenSpec.upto soapFewestSpec)

/-- 'posserlaw08.SoapLeaves', WHERE WHAT IT READS IS OF BULK AT MOST 1048576: true; the input reads as it did. -/
def soapLeavesUptoRow : OpenClaim := { program := "ytncaadckehikpaa", sum := "03f4852acc4c97fd01d5fa8c2ead5946a0c3b9776e451baa5ef15cf951ee7ac5", func := "posser/posserlaw08.SoapLeaves", spec := "soapLeaves", unfollowed := true, recurses := true, plainKeys := false, apart := false, narrowed := true }
def SoapLeavesUptoSaid : Prop := soapLeavesUptoRow.holds Try.pinned (OpenSpec.upto soapLeavesSpec)

/-- 'posserlaw08.SoapLost', WHERE WHAT IT READS IS OF BULK AT MOST 1048576: true; the input reads as it did. -/
def soapLostUptoRow : OpenClaim := { program := "ytncaadckehikpaa", sum := "03f4852acc4c97fd01d5fa8c2ead5946a0c3b9776e451baa5ef15cf951ee7ac5", func := "posser/posserlaw08.SoapLost", spec := "soapLost", unfollowed := true, recurses := true, plainKeys := false, apart := false, narrowed := true }
def SoapLostUptoSaid : Prop := soapLostUptoRow.holds Try.pinned (OpenSpec.upto soapLostSpec)

/-- 'posserlaw08.SoapEnds', WHERE WHAT IT READS IS OF BULK AT MOST 1048576: true; the input reads as it did. -/
def soapEndsUptoRow : OpenClaim := { program := "ytncaadckehikpaa", sum := "03f4852acc4c97fd01d5fa8c2ead5946a0c3b9776e451baa5ef15cf951ee7ac5", func := "posser/posserlaw08.SoapEnds", spec := "soapEnds", unfollowed := true, recurses := true, plainKeys := false, apart := false, narrowed := true }
def SoapEndsUptoSaid : Prop := soapEndsUptoRow.holds Try.pinned (OpenSpec.upto soapEndsSpec)

/-- 'posserlaw08.SoapNoFewer', WHERE WHAT IT READS IS OF BULK AT MOST 1048576: true; the input reads as it did. -/
def soapNoFewerUptoRow : OpenClaim := { program := "ytncaadckehikpaa", sum := "03f4852acc4c97fd01d5fa8c2ead5946a0c3b9776e451baa5ef15cf951ee7ac5", func := "posser/posserlaw08.SoapNoFewer", spec := "soapNoFewer", unfollowed := true, recurses := true, plainKeys := false, apart := false, narrowed := true }
def SoapNoFewerUptoSaid : Prop := soapNoFewerUptoRow.holds Try.pinned (OpenSpec.upto soapNoFewerSpec)

/-- 'posserlaw08.SoapApart', WHERE WHAT IT READS IS OF BULK AT MOST 1048576: true; the input reads as it did. -/
def soapApartUptoRow : OpenClaim := { program := "ytncaadckehikpaa", sum := "03f4852acc4c97fd01d5fa8c2ead5946a0c3b9776e451baa5ef15cf951ee7ac5", func := "posser/posserlaw08.SoapApart", spec := "soapApart", unfollowed := true, recurses := true, plainKeys := false, apart := false, narrowed := true }
def SoapApartUptoSaid : Prop := soapApartUptoRow.holds Try.pinned (OpenSpec.upto soapApartSpec)

/-- 'posserlaw08.SoapPaid', WHERE WHAT IT READS IS OF BULK AT MOST 1048576: true; the input reads as it did. -/
def soapPaidUptoRow : OpenClaim := { program := "ytncaadckehikpaa", sum := "03f4852acc4c97fd01d5fa8c2ead5946a0c3b9776e451baa5ef15cf951ee7ac5", func := "posser/posserlaw08.SoapPaid", spec := "soapPaid", unfollowed := true, recurses := true, plainKeys := false, apart := false, narrowed := true }
def SoapPaidUptoSaid : Prop := soapPaidUptoRow.holds Try.pinned (OpenSpec.upto soapPaidSpec)

/-- 'posserlaw08.SoapOrder', WHERE WHAT IT READS IS OF BULK AT MOST 1048576: true; the input reads as it did. -/
def soapOrderUptoRow : OpenClaim := { program := "ytncaadckehikpaa", sum := "03f4852acc4c97fd01d5fa8c2ead5946a0c3b9776e451baa5ef15cf951ee7ac5", func := "posser/posserlaw08.SoapOrder", spec := "soapOrder", unfollowed := true, recurses := true, plainKeys := false, apart := false, narrowed := true }
def SoapOrderUptoSaid : Prop := soapOrderUptoRow.holds Try.pinned (OpenSpec.upto soapOrderSpec)

/-- 'posserlaw08.SoapMore', WHERE WHAT IT READS IS OF BULK AT MOST 1048576: true; the input reads as it did. -/
def soapMoreUptoRow : OpenClaim := { program := "ytncaadckehikpaa", sum := "03f4852acc4c97fd01d5fa8c2ead5946a0c3b9776e451baa5ef15cf951ee7ac5", func := "posser/posserlaw08.SoapMore", spec := "soapMore", unfollowed := true, recurses := true, plainKeys := false, apart := false, narrowed := true }
def SoapMoreUptoSaid : Prop := soapMoreUptoRow.holds Try.pinned (OpenSpec.upto soapMoreSpec)

/-- 'posserlaw08.SoapWider', WHERE WHAT IT READS IS OF BULK AT MOST 1048576: true; the input reads as it did. -/
def soapWiderUptoRow : OpenClaim := { program := "ytncaadckehikpaa", sum := "03f4852acc4c97fd01d5fa8c2ead5946a0c3b9776e451baa5ef15cf951ee7ac5", func := "posser/posserlaw08.SoapWider", spec := "soapWider", unfollowed := true, recurses := true, plainKeys := false, apart := false, narrowed := true }
def SoapWiderUptoSaid : Prop := soapWiderUptoRow.holds Try.pinned (OpenSpec.upto soapWiderSpec)

/-- 'posserlaw08.SoapFirst', WHERE WHAT IT READS IS OF BULK AT MOST 1048576: true; the input reads as it did. -/
def soapFirstUptoRow : OpenClaim := { program := "ytncaadckehikpaa", sum := "03f4852acc4c97fd01d5fa8c2ead5946a0c3b9776e451baa5ef15cf951ee7ac5", func := "posser/posserlaw08.SoapFirst", spec := "soapFirst", unfollowed := true, recurses := true, plainKeys := false, apart := false, narrowed := true }
def SoapFirstUptoSaid : Prop := soapFirstUptoRow.holds Try.pinned (OpenSpec.upto soapFirstSpec)

/-- 'posserlaw08.SoapLeft', WHERE WHAT IT READS IS OF BULK AT MOST 1048576: true; the input reads as it did. -/
def soapLeftUptoRow : OpenClaim := { program := "ytncaadckehikpaa", sum := "03f4852acc4c97fd01d5fa8c2ead5946a0c3b9776e451baa5ef15cf951ee7ac5", func := "posser/posserlaw08.SoapLeft", spec := "soapLeft", unfollowed := true, recurses := true, plainKeys := false, apart := false, narrowed := true }
def SoapLeftUptoSaid : Prop := soapLeftUptoRow.holds Try.pinned (OpenSpec.upto soapLeftSpec)

/-- 'posserlaw08.SoapPlays', WHERE WHAT IT READS IS OF BULK AT MOST 1048576: true; the input reads as it did. -/
def soapPlaysUptoRow : OpenClaim := { program := "ytncaadckehikpaa", sum := "03f4852acc4c97fd01d5fa8c2ead5946a0c3b9776e451baa5ef15cf951ee7ac5", func := "posser/posserlaw08.SoapPlays", spec := "soapPlays", unfollowed := true, recurses := true, plainKeys := false, apart := false, narrowed := true }
def SoapPlaysUptoSaid : Prop := soapPlaysUptoRow.holds Try.pinned (OpenSpec.upto soapPlaysSpec)

/-- 'posserlaw08.SoapTruth', WHERE WHAT IT READS IS OF BULK AT MOST 1048576: true; the input reads as it did. -/
def soapTruthUptoRow : OpenClaim := { program := "ytncaadckehikpaa", sum := "03f4852acc4c97fd01d5fa8c2ead5946a0c3b9776e451baa5ef15cf951ee7ac5", func := "posser/posserlaw08.SoapTruth", spec := "soapTruth", unfollowed := true, recurses := true, plainKeys := false, apart := false, narrowed := true }
def SoapTruthUptoSaid : Prop := soapTruthUptoRow.holds Try.pinned (OpenSpec.upto soapTruthSpec)

/-- 'posserlaw08.SoapSettles', WHERE WHAT IT READS IS OF BULK AT MOST 1048576: true; the input reads as it did. -/
def soapSettlesUptoRow : OpenClaim := { program := "ytncaadckehikpaa", sum := "03f4852acc4c97fd01d5fa8c2ead5946a0c3b9776e451baa5ef15cf951ee7ac5", func := "posser/posserlaw08.SoapSettles", spec := "soapSettles", unfollowed := true, recurses := true, plainKeys := false, apart := false, narrowed := true }
def SoapSettlesUptoSaid : Prop := soapSettlesUptoRow.holds Try.pinned (OpenSpec.upto soapSettlesSpec)

end Rows
end Go.Proofs.Ytncaadckehikpaa
