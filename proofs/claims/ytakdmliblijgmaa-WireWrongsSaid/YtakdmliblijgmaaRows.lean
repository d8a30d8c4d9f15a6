/-
  No cell of these rows narrows 'for every input' (looked for: loops, veiled, ifaces, maps, wideKeys, modest, calm, conditions, laid).
  DERIVED. THE GIVEN ROWS OF THIS SEAT. 9 by the template 'for every input the law returns true; each argument reads behind the call as it read before'; 0 by the template 'total and deterministic' (their statements: YtakdmliblijgmaaTotals.lean).
  GIVEN WITH THE SEED: the statements are not yours to turn. If you find one false, say at which input.
  Laid BY PROGRAM, IN A SANDBOX (cutbox-rows.mjs): the forced cells as the released guide's own fill.sh prints them over the translation 388b869993622e4d… (all of the seat's roots in one cut). By AI agents, Wed Nov 11 2026. No macro, syntax, notation, axiom, sorry.
-/
import Derived.Test.YtakdmliblijgmaaChecked
import GoSem.Claim
import GoSem.ClaimJoined
import GoSem.ClaimMapViews
import Derived.JoinedTies
import Derived.KernelRfl
namespace Go.Proofs.Ytakdmliblijgmaa
/- THE CELL 'sum', in the pinned program and in every row, IS THE sha256 OF THE DUMP (.gsa) THAT YtakdmliblijgmaaProg.lean LOADS. Nothing in Lean hashes anything: it is a label: what it is worth is what the hold of that sum in a sandbox is worth. -/
noncomputable def Try.pinned : Pinned := { name := "ytakdmliblijgmaa", sum := "388b869993622e4da1a2182d3965c2a95cdaf1c169e7bc13dc816a0e753c1109", checked := Try.checked }
namespace Rows
def none {H : Type} : Left H := { results := [], args := [] }

/-- 'turretlaw08.WireFits': WHATEVER THE INPUT: true; the input reads as it did. -/
def wireFitsSpec : ChangeSpec := { name := "wireFits", fn := fun _ => fun
  | [d1, d2, d3] => { results := [.lit (.bool true)], args := [d1, d2, d3] }
  | _ => none }
def wireFitsRow : OpenClaim := { program := "ytakdmliblijgmaa", sum := "388b869993622e4da1a2182d3965c2a95cdaf1c169e7bc13dc816a0e753c1109", func := "turret/turretlaw08.WireFits", spec := "wireFits", unfollowed := true, recurses := true, apart := false }
def WireFitsSaid : Prop := wireFitsRow.holds Try.pinned (OpenSpec.ofChange wireFitsSpec)

/-- ITS FALSE NEIGHBOUR: 'it returns false'. Refute it at one input. -/
def wireFitsWrong : ChangeSpec := { name := "wireFits", fn := fun _ => fun
  | [d1, d2, d3] => { results := [.lit (.bool false)], args := [d1, d2, d3] }
  | _ => none }
def WireFitsWrongFalsely : Prop := wireFitsRow.holds Try.pinned (OpenSpec.ofChange wireFitsWrong)

/-- 'turretlaw08.WireWrongs': WHATEVER THE INPUT: true; the input reads as it did. -/
def wireWrongsSpec : ChangeSpec := { name := "wireWrongs", fn := fun _ => fun
  | [d1, d2, d3] => { results := [.lit (.bool true)], args := [d1, d2, d3] }
  | _ => none }
def wireWrongsRow : OpenClaim := { program := "ytakdmliblijgmaa", sum := "388b869993622e4da1a2182d3965c2a95cdaf1c169e7bc13dc816a0e753c1109", func := "turret/turretlaw08.WireWrongs", spec := "wireWrongs", unfollowed := true, recurses := true, apart := false }
def WireWrongsSaid : Prop := wireWrongsRow.holds Try.pinned (OpenSpec.ofChange wireWrongsSpec)

/-- ITS FALSE NEIGHBOUR: 'it returns false'. Refute it at one input. -/
def wireWrongsWrong : ChangeSpec := { name := "wireWrongs", fn := fun _ => fun
  | [d1, d2, d3] => { results := [.lit (.bool false)], args := [d1, d2, d3] }
  | _ => none }
def WireWrongsWrongFalsely : Prop := wireWrongsRow.holds Try.pinned (OpenSpec.ofChange wireWrongsWrong)

/-- 'turretlaw08.WireStretches': WHATEVER THE INPUT: true; the input reads as it did. -/
def wireStretchesSpec : ChangeSpec := { name := "wireStretches", fn := fun _ => fun
  | [d1, d2, d3] => { results := [.lit (.bool true)], args := [d1, d2, d3] }
  | _ => none }
def wireStretchesRow : OpenClaim := { program := "ytakdmliblijgmaa", sum := "388b869993622e4da1a2182d3965c2a95cdaf1c169e7bc13dc816a0e753c1109", func := "turret/turretlaw08.WireStretches", spec := "wireStretches", unfollowed := true, recurses := true, apart := false }
def WireStretchesSaid : Prop := wireStretchesRow.holds Try.pinned (OpenSpec.ofChange wireStretchesSpec)

/-- ITS FALSE NEIGHBOUR: 'it returns false'. Refute it at one input. -/
def wireStretchesWrong : ChangeSpec := { name := "wireStretches", fn := fun _ => fun
  | [d1, d2, d3] => { results := [.lit (.bool false)], args := [d1, d2, d3] }
  | _ => none }
def WireStretchesWrongFalsely : Prop := wireStretchesRow.holds Try.pinned (OpenSpec.ofChange wireStretchesWrong)

/-- 'turretlaw08.WireTruths': WHATEVER THE INPUT: true; the input reads as it did. -/
def wireTruthsSpec : ChangeSpec := { name := "wireTruths", fn := fun _ => fun
  | [d1, d2, d3] => { results := [.lit (.bool true)], args := [d1, d2, d3] }
  | _ => none }
def wireTruthsRow : OpenClaim := { program := "ytakdmliblijgmaa", sum := "388b869993622e4da1a2182d3965c2a95cdaf1c169e7bc13dc816a0e753c1109", func := "turret/turretlaw08.WireTruths", spec := "wireTruths", unfollowed := true, recurses := true, apart := false }
def WireTruthsSaid : Prop := wireTruthsRow.holds Try.pinned (OpenSpec.ofChange wireTruthsSpec)

/-- ITS FALSE NEIGHBOUR: 'it returns false'. Refute it at one input. -/
def wireTruthsWrong : ChangeSpec := { name := "wireTruths", fn := fun _ => fun
  | [d1, d2, d3] => { results := [.lit (.bool false)], args := [d1, d2, d3] }
  | _ => none }
def WireTruthsWrongFalsely : Prop := wireTruthsRow.holds Try.pinned (OpenSpec.ofChange wireTruthsWrong)

/-- 'turretlaw08.WireLiar': WHATEVER THE INPUT: true; the input reads as it did. -/
def wireLiarSpec : ChangeSpec := { name := "wireLiar", fn := fun _ => fun
  | [d1, d2, d3] => { results := [.lit (.bool true)], args := [d1, d2, d3] }
  | _ => none }
def wireLiarRow : OpenClaim := { program := "ytakdmliblijgmaa", sum := "388b869993622e4da1a2182d3965c2a95cdaf1c169e7bc13dc816a0e753c1109", func := "turret/turretlaw08.WireLiar", spec := "wireLiar", unfollowed := true, recurses := true, apart := false }
def WireLiarSaid : Prop := wireLiarRow.holds Try.pinned (OpenSpec.ofChange wireLiarSpec)

/-- ITS FALSE NEIGHBOUR: 'it returns false'. Refute it at one input. -/
def wireLiarWrong : ChangeSpec := { name := "wireLiar", fn := fun _ => fun
  | [d1, d2, d3] => { results := [.lit (.bool false)], args := [d1, d2, d3] }
  | _ => none }
def WireLiarWrongFalsely : Prop := wireLiarRow.holds Try.pinned (OpenSpec.ofChange wireLiarWrong)

/-- 'turretlaw08.WireMore': WHATEVER THE INPUT: true; the input reads as it did. -/
def wireMoreSpec : ChangeSpec := { name := "wireMore", fn := fun _ => fun
  | [d1, d2] => { results := [.lit (.bool true)], args := [d1, d2] }
  | _ => none }
def wireMoreRow : OpenClaim := { program := "ytakdmliblijgmaa", sum := "388b869993622e4da1a2182d3965c2a95cdaf1c169e7bc13dc816a0e753c1109", func := "turret/turretlaw08.WireMore", spec := "wireMore", unfollowed := true, recurses := true, apart := false }
def WireMoreSaid : Prop := wireMoreRow.holds Try.pinned (OpenSpec.ofChange wireMoreSpec)

/-- ITS FALSE NEIGHBOUR: 'it returns false'. Refute it at one input. -/
def wireMoreWrong : ChangeSpec := { name := "wireMore", fn := fun _ => fun
  | [d1, d2] => { results := [.lit (.bool false)], args := [d1, d2] }
  | _ => none }
def WireMoreWrongFalsely : Prop := wireMoreRow.holds Try.pinned (OpenSpec.ofChange wireMoreWrong)

/-- 'turretlaw08.WireWider': WHATEVER THE INPUT: true; the input reads as it did. -/
def wireWiderSpec : ChangeSpec := { name := "wireWider", fn := fun _ => fun
  | [d1, d2, d3] => { results := [.lit (.bool true)], args := [d1, d2, d3] }
  | _ => none }
def wireWiderRow : OpenClaim := { program := "ytakdmliblijgmaa", sum := "388b869993622e4da1a2182d3965c2a95cdaf1c169e7bc13dc816a0e753c1109", func := "turret/turretlaw08.WireWider", spec := "wireWider", unfollowed := true, recurses := true, apart := false }
def WireWiderSaid : Prop := wireWiderRow.holds Try.pinned (OpenSpec.ofChange wireWiderSpec)

/-- ITS FALSE NEIGHBOUR: 'it returns false'. Refute it at one input. -/
def wireWiderWrong : ChangeSpec := { name := "wireWider", fn := fun _ => fun
  | [d1, d2, d3] => { results := [.lit (.bool false)], args := [d1, d2, d3] }
  | _ => none }
def WireWiderWrongFalsely : Prop := wireWiderRow.holds Try.pinned (OpenSpec.ofChange wireWiderWrong)

/-- 'turretlaw08.WireLater': WHATEVER THE INPUT: true; the input reads as it did. -/
def wireLaterSpec : ChangeSpec := { name := "wireLater", fn := fun _ => fun
  | [d1, d2, d3] => { results := [.lit (.bool true)], args := [d1, d2, d3] }
  | _ => none }
def wireLaterRow : OpenClaim := { program := "ytakdmliblijgmaa", sum := "388b869993622e4da1a2182d3965c2a95cdaf1c169e7bc13dc816a0e753c1109", func := "turret/turretlaw08.WireLater", spec := "wireLater", unfollowed := true, recurses := true, apart := false }
def WireLaterSaid : Prop := wireLaterRow.holds Try.pinned (OpenSpec.ofChange wireLaterSpec)

/-- ITS FALSE NEIGHBOUR: 'it returns false'. Refute it at one input. -/
def wireLaterWrong : ChangeSpec := { name := "wireLater", fn := fun _ => fun
  | [d1, d2, d3] => { results := [.lit (.bool false)], args := [d1, d2, d3] }
  | _ => none }
def WireLaterWrongFalsely : Prop := wireLaterRow.holds Try.pinned (OpenSpec.ofChange wireLaterWrong)

/-- 'turretlaw08.WireChecks': WHATEVER THE INPUT: true; the input reads as it did. -/
def wireChecksSpec : ChangeSpec := { name := "wireChecks", fn := fun _ => fun
  | [d1, d2, d3] => { results := [.lit (.bool true)], args := [d1, d2, d3] }
  | _ => none }
def wireChecksRow : OpenClaim := { program := "ytakdmliblijgmaa", sum := "388b869993622e4da1a2182d3965c2a95cdaf1c169e7bc13dc816a0e753c1109", func := "turret/turretlaw08.WireChecks", spec := "wireChecks", unfollowed := true, recurses := true, apart := false }
def WireChecksSaid : Prop := wireChecksRow.holds Try.pinned (OpenSpec.ofChange wireChecksSpec)

/-- ITS FALSE NEIGHBOUR: 'it returns false'. Refute it at one input. -/
def wireChecksWrong : ChangeSpec := { name := "wireChecks", fn := fun _ => fun
  | [d1, d2, d3] => { results := [.lit (.bool false)], args := [d1, d2, d3] }
  | _ => none }
def WireChecksWrongFalsely : Prop := wireChecksRow.holds Try.pinned (OpenSpec.ofChange wireChecksWrong)

/- THE SECOND FORM. 'bulk': how many values and letters a reading holds, each counted each time it is reached (what is shared counts as often as it is met; a slice's spare places count too). A statement '..UptoSaid' is the law's where the arguments, and the package variables that the reading takes, are together of bulk at most 1048576: NARROWER than '..Said'. Prove '..Said' where nothing that the law and all that it calls make is longer than what came in: it says more and counts as full. Else prove '..UptoSaid'. A law counts once. -/
mutual
def uptoBulk {H : Type} : DataW H → Nat
  | .lit (.string bytes) => bytes.length + 1
  | .lit _ => 1
  | .nil => 1
  | .ptr d => uptoBulk d + 1
  | .slice elems spare => uptoBulkAll elems + uptoBulkAll spare + 1
  | .agg parts => uptoBulkAll parts + 1
  | .iface _ d => uptoBulk d + 1
  | .map entries => uptoBulkEntries entries + 1
  | .held _ => 1
def uptoBulkAll {H : Type} : List (DataW H) → Nat
  | [] => 0
  | d :: r => uptoBulk d + uptoBulkAll r
def uptoBulkEntries {H : Type} : List (Lit × DataW H) → Nat
  | [] => 0
  | x :: r => uptoBulkEntry x + uptoBulkEntries r
def uptoBulkEntry {H : Type} : Lit × DataW H → Nat
  | (.string bytes, d) => bytes.length + uptoBulk d + 1
  | (_, d) => uptoBulk d + 1
 end
def uptoSmall : (H : Type) → List (DataW H) → Bool := fun _ ds => decide (uptoBulkAll ds ≤ 1048576)
def OpenSpec.upto (s : _root_.Go.ChangeSpec) : _root_.Go.OpenSpec := { _root_.Go.OpenSpec.ofChange s with cond := some uptoSmall }

/-- 'turretlaw08.WireFits', WHERE WHAT IT READS IS OF BULK AT MOST 1048576: true; the input reads as it did. -/
def wireFitsUptoRow : OpenClaim := { program := "ytakdmliblijgmaa", sum := "388b869993622e4da1a2182d3965c2a95cdaf1c169e7bc13dc816a0e753c1109", func := "turret/turretlaw08.WireFits", spec := "wireFits", unfollowed := true, recurses := true, apart := false, narrowed := true }
def WireFitsUptoSaid : Prop := wireFitsUptoRow.holds Try.pinned (OpenSpec.upto wireFitsSpec)

/-- 'turretlaw08.WireWrongs', WHERE WHAT IT READS IS OF BULK AT MOST 1048576: true; the input reads as it did. -/
def wireWrongsUptoRow : OpenClaim := { program := "ytakdmliblijgmaa", sum := "388b869993622e4da1a2182d3965c2a95cdaf1c169e7bc13dc816a0e753c1109", func := "turret/turretlaw08.WireWrongs", spec := "wireWrongs", unfollowed := true, recurses := true, apart := false, narrowed := true }
def WireWrongsUptoSaid : Prop := wireWrongsUptoRow.holds Try.pinned (OpenSpec.upto wireWrongsSpec)

/-- 'turretlaw08.WireStretches', WHERE WHAT IT READS IS OF BULK AT MOST 1048576: true; the input reads as it did. -/
def wireStretchesUptoRow : OpenClaim := { program := "ytakdmliblijgmaa", sum := "388b869993622e4da1a2182d3965c2a95cdaf1c169e7bc13dc816a0e753c1109", func := "turret/turretlaw08.WireStretches", spec := "wireStretches", unfollowed := true, recurses := true, apart := false, narrowed := true }
def WireStretchesUptoSaid : Prop := wireStretchesUptoRow.holds Try.pinned (OpenSpec.upto wireStretchesSpec)

/-- 'turretlaw08.WireTruths', WHERE WHAT IT READS IS OF BULK AT MOST 1048576: true; the input reads as it did. -/
def wireTruthsUptoRow : OpenClaim := { program := "ytakdmliblijgmaa", sum := "388b869993622e4da1a2182d3965c2a95cdaf1c169e7bc13dc816a0e753c1109", func := "turret/turretlaw08.WireTruths", spec := "wireTruths", unfollowed := true, recurses := true, apart := false, narrowed := true }
def WireTruthsUptoSaid : Prop := wireTruthsUptoRow.holds Try.pinned (OpenSpec.upto wireTruthsSpec)

/-- 'turretlaw08.WireLiar', WHERE WHAT IT READS IS OF BULK AT MOST 1048576: true; the input reads as it did. -/
def wireLiarUptoRow : OpenClaim := { program := "ytakdmliblijgmaa", sum := "388b869993622e4da1a2182d3965c2a95cdaf1c169e7bc13dc816a0e753c1109", func := "turret/turretlaw08.WireLiar", spec := "wireLiar", unfollowed := true, recurses := true, apart := false, narrowed := true }
def WireLiarUptoSaid : Prop := wireLiarUptoRow.holds Try.pinned (OpenSpec.upto wireLiarSpec)

/-- 'turretlaw08.WireMore', WHERE WHAT IT READS IS OF BULK AT MOST 1048576: true; the input reads as it did. -/
def wireMoreUptoRow : OpenClaim := { program := "ytakdmliblijgmaa", sum := "388b869993622e4da1a2182d3965c2a95cdaf1c169e7bc13dc816a0e753c1109", func := "turret/turretlaw08.WireMore", spec := "wireMore", unfollowed := true, recurses := true, apart := false, narrowed := true }
def WireMoreUptoSaid : Prop := wireMoreUptoRow.holds Try.pinned (OpenSpec.upto wireMoreSpec)

/-- 'turretlaw08.WireWider', WHERE WHAT IT READS IS OF BULK AT MOST 1048576: true; the input reads as it did. -/
def wireWiderUptoRow : OpenClaim := { program := "ytakdmliblijgmaa", sum := "388b869993622e4da1a2182d3965c2a95cdaf1c169e7bc13dc816a0e753c1109", func := "turret/turretlaw08.WireWider", spec := "wireWider", unfollowed := true, recurses := true, apart := false, narrowed := true }
def WireWiderUptoSaid : Prop := wireWiderUptoRow.holds Try.pinned (OpenSpec.upto wireWiderSpec)

/-- 'turretlaw08.WireLater', WHERE WHAT IT READS IS OF BULK AT MOST 1048576: true; the input reads as it did. -/
def wireLaterUptoRow : OpenClaim := { program := "ytakdmliblijgmaa", sum := "388b869993622e4da1a2182d3965c2a95cdaf1c169e7bc13dc816a0e753c1109", func := "turret/turretlaw08.WireLater", spec := "wireLater", unfollowed := true, recurses := true, apart := false, narrowed := true }
def WireLaterUptoSaid : Prop := wireLaterUptoRow.holds Try.pinned (OpenSpec.upto wireLaterSpec)

/-- 'turretlaw08.WireChecks', WHERE WHAT IT READS IS OF BULK AT MOST 1048576: true; the input reads as it did. -/
def wireChecksUptoRow : OpenClaim := { program := "ytakdmliblijgmaa", sum := "388b869993622e4da1a2182d3965c2a95cdaf1c169e7bc13dc816a0e753c1109", func := "turret/turretlaw08.WireChecks", spec := "wireChecks", unfollowed := true, recurses := true, apart := false, narrowed := true }
def WireChecksUptoSaid : Prop := wireChecksUptoRow.holds Try.pinned (OpenSpec.upto wireChecksSpec)

end Rows
end Go.Proofs.Ytakdmliblijgmaa
