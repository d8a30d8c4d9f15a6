/-
  No cell of these rows narrows 'for every input' (looked for: loops, veiled, ifaces, maps, wideKeys, modest, calm, conditions, laid).
  DERIVED. THE GIVEN ROWS OF THIS SEAT. 3 by the template 'for every input the law returns true; each argument reads behind the call as it read before'; 0 by the template 'total and deterministic' (their statements: YtlodpljdhdhfmaaGreatTotals.lean).
  GIVEN WITH THE SEED: the statements are not yours to turn. If you find one false, say at which input.
  Laid BY PROGRAM, IN A SANDBOX (cutbox-rows.mjs): the forced cells as the released guide's own fill.sh prints them over the translation 1cd71e48e3a240b4… (all of the seat's roots in one cut). By AI agents, Wed Nov 11 2026. No macro, syntax, notation, axiom, sorry.
-/
import Derived.Test.YtlodpljdhdhfmaaGreatChecked
import GoSem.Claim
import GoSem.ClaimJoined
import GoSem.ClaimMapViews
import Derived.JoinedTies
import Derived.KernelRfl
namespace Go.Proofs.YtlodpljdhdhfmaaGreat
/- THE CELL 'sum', in the pinned program and in every row, IS THE sha256 OF THE DUMP (.gsa) THAT YtlodpljdhdhfmaaGreatProg.lean LOADS. Nothing in Lean hashes anything: it is a label: what it is worth is what the hold of that sum in a sandbox is worth. -/
noncomputable def Tryz.pinned : Pinned := { name := "ytlodpljdhdhfmaagreat", sum := "1cd71e48e3a240b47982e90b98e52f99993d3c744902bc7524d42a91c40da32e", checked := Tryz.checked }
namespace Rows
def none {H : Type} : Left H := { results := [], args := [] }

/-- 'turrettop.TopBeatDial': WHATEVER THE INPUT: true; the input reads as it did. -/
def topBeatDialSpec : ChangeSpec := { name := "topBeatDial", fn := fun _ => fun
  | [d] => { results := [.lit (.bool true)], args := [d] }
  | _ => none }
def topBeatDialRow : OpenClaim := { program := "ytlodpljdhdhfmaagreat", sum := "1cd71e48e3a240b47982e90b98e52f99993d3c744902bc7524d42a91c40da32e", func := "turret/turrettop.TopBeatDial", spec := "topBeatDial", unfollowed := true, recurses := true, apart := false }
def TopBeatDialSaid : Prop := topBeatDialRow.holds Tryz.pinned (OpenSpec.ofChange topBeatDialSpec)

/-- ITS FALSE NEIGHBOUR: 'it returns false'. Refute it at one input. -/
def topBeatDialWrong : ChangeSpec := { name := "topBeatDial", fn := fun _ => fun
  | [d] => { results := [.lit (.bool false)], args := [d] }
  | _ => none }
def TopBeatDialWrongFalsely : Prop := topBeatDialRow.holds Tryz.pinned (OpenSpec.ofChange topBeatDialWrong)

/-- 'turrettop.TopDialWire': WHATEVER THE INPUT: true; the input reads as it did. -/
def topDialWireSpec : ChangeSpec := { name := "topDialWire", fn := fun _ => fun
  | [d1, d2, d3] => { results := [.lit (.bool true)], args := [d1, d2, d3] }
  | _ => none }
def topDialWireRow : OpenClaim := { program := "ytlodpljdhdhfmaagreat", sum := "1cd71e48e3a240b47982e90b98e52f99993d3c744902bc7524d42a91c40da32e", func := "turret/turrettop.TopDialWire", spec := "topDialWire", unfollowed := true, recurses := true, apart := false }
def TopDialWireSaid : Prop := topDialWireRow.holds Tryz.pinned (OpenSpec.ofChange topDialWireSpec)

/-- ITS FALSE NEIGHBOUR: 'it returns false'. Refute it at one input. -/
def topDialWireWrong : ChangeSpec := { name := "topDialWire", fn := fun _ => fun
  | [d1, d2, d3] => { results := [.lit (.bool false)], args := [d1, d2, d3] }
  | _ => none }
def TopDialWireWrongFalsely : Prop := topDialWireRow.holds Tryz.pinned (OpenSpec.ofChange topDialWireWrong)

/-- 'turrettop.TopBeatWire': WHATEVER THE INPUT: true; the input reads as it did. -/
def topBeatWireSpec : ChangeSpec := { name := "topBeatWire", fn := fun _ => fun
  | [d1, d2, d3] => { results := [.lit (.bool true)], args := [d1, d2, d3] }
  | _ => none }
def topBeatWireRow : OpenClaim := { program := "ytlodpljdhdhfmaagreat", sum := "1cd71e48e3a240b47982e90b98e52f99993d3c744902bc7524d42a91c40da32e", func := "turret/turrettop.TopBeatWire", spec := "topBeatWire", unfollowed := true, recurses := true, apart := false }
def TopBeatWireSaid : Prop := topBeatWireRow.holds Tryz.pinned (OpenSpec.ofChange topBeatWireSpec)

/-- ITS FALSE NEIGHBOUR: 'it returns false'. Refute it at one input. -/
def topBeatWireWrong : ChangeSpec := { name := "topBeatWire", fn := fun _ => fun
  | [d1, d2, d3] => { results := [.lit (.bool false)], args := [d1, d2, d3] }
  | _ => none }
def TopBeatWireWrongFalsely : Prop := topBeatWireRow.holds Tryz.pinned (OpenSpec.ofChange topBeatWireWrong)

/- THE SECOND FORM. 'bulk': how many values and letters a reading holds, each counted each time it is reached (what is shared counts as often as it is met; a slice's spare places count too). A statement '..UptoSaid' is the law's where the arguments, and the package variables that the reading takes, are together of bulk at most 1048576: NARROWER than '..Said'. Prove '..Said' where nothing that the law and all that it calls make is longer than what came in: it says more and counts as full. Else prove '..UptoSaid'. A law counts once. -/
mutual
def uptoBulk {H : Type} : DataW H → Nat
  | .lit (.string bytes) => bytes.length + 1
  | .lit _ => 1
  | .nil => 1
  | .ptr d => uptoBulk d + 1
  | .slice elems spare => uptoBulkAll elems + uptoBulkAll spare + 1
  | .agg parts => uptoBulkAll parts + 1
  | .iface _ d => uptoBulk d + 1
  | .map entries => uptoBulkEntries entries + 1
  | .held _ => 1
def uptoBulkAll {H : Type} : List (DataW H) → Nat
  | [] => 0
  | d :: r => uptoBulk d + uptoBulkAll r
def uptoBulkEntries {H : Type} : List (Lit × DataW H) → Nat
  | [] => 0
  | x :: r => uptoBulkEntry x + uptoBulkEntries r
def uptoBulkEntry {H : Type} : Lit × DataW H → Nat
  | (.string bytes, d) => bytes.length + uptoBulk d + 1
  | (_, d) => uptoBulk d + 1
 end
def uptoSmall : (H : Type) → List (DataW H) → Bool := fun _ ds => decide (uptoBulkAll ds ≤ 1048576)
def OpenSpec.upto (s : _root_.Go.ChangeSpec) : _root_.Go.OpenSpec := { _root_.Go.OpenSpec.ofChange s with cond := some uptoSmall }

/-- 'turrettop.TopBeatDial', WHERE WHAT IT READS IS OF BULK AT MOST 1048576: true; the input reads as it did. -/
def topBeatDialUptoRow : OpenClaim := { program := "ytlodpljdhdhfmaagreat", sum := "1cd71e48e3a240b47982e90b98e52f99993d3c744902bc7524d42a91c40da32e", func := "turret/turrettop.TopBeatDial", spec := "topBeatDial", unfollowed := true, recurses := true, apart := false, narrowed := true }
def TopBeatDialUptoSaid : Prop := topBeatDialUptoRow.holds Tryz.pinned (OpenSpec.upto topBeatDialSpec)

/-- 'turrettop.TopDialWire', WHERE WHAT IT READS IS OF BULK AT MOST 1048576: true; the input reads as it did. -/
def topDialWireUptoRow : OpenClaim := { program := "ytlodpljdhdhfmaagreat", sum := "1cd71e48e3a240b47982e90b98e52f99993d3c744902bc7524d42a91c40da32e", func := "turret/turrettop.TopDialWire", spec := "topDialWire", unfollowed := true, recurses := true, apart := false, narrowed := true }
def TopDialWireUptoSaid : Prop := topDialWireUptoRow.holds Tryz.pinned (OpenSpec.upto topDialWireSpec)

/-- 'turrettop.TopBeatWire', WHERE WHAT IT READS IS OF BULK AT MOST 1048576: true; the input reads as it did. -/
def topBeatWireUptoRow : OpenClaim := { program := "ytlodpljdhdhfmaagreat", sum := "1cd71e48e3a240b47982e90b98e52f99993d3c744902bc7524d42a91c40da32e", func := "turret/turrettop.TopBeatWire", spec := "topBeatWire", unfollowed := true, recurses := true, apart := false, narrowed := true }
def TopBeatWireUptoSaid : Prop := topBeatWireUptoRow.holds Tryz.pinned (OpenSpec.upto topBeatWireSpec)

end Rows
end Go.Proofs.YtlodpljdhdhfmaaGreat
