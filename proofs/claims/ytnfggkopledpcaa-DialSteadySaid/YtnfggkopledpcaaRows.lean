/-
  No cell of these rows narrows 'for every input' (looked for: loops, veiled, ifaces, maps, wideKeys, modest, calm, conditions, laid).
  DERIVED. THE GIVEN ROWS OF THIS SEAT. 8 by the template 'for every input the law returns true; each argument reads behind the call as it read before'; 0 by the template 'total and deterministic' (their statements: YtnfggkopledpcaaTotals.lean).
  GIVEN WITH THE SEED: the statements are not yours to turn. If you find one false, say at which input.
  Laid BY PROGRAM, IN A SANDBOX (cutbox-rows.mjs): the forced cells as the released guide's own fill.sh prints them over the translation eea0a1963bce9867… (all of the seat's roots in one cut). By AI agents, Wed Nov 11 2026. No macro, syntax, notation, axiom, sorry.
-/
import Derived.Test.YtnfggkopledpcaaChecked
import GoSem.Claim
import GoSem.ClaimJoined
import GoSem.ClaimMapViews
import Derived.JoinedTies
import Derived.KernelRfl
namespace Go.Proofs.Ytnfggkopledpcaa
/- THE CELL 'sum', in the pinned program and in every row, IS THE sha256 OF THE DUMP (.gsa) THAT YtnfggkopledpcaaProg.lean LOADS. Nothing in Lean hashes anything: it is a label: what it is worth is what the hold of that sum in a sandbox is worth. -/
noncomputable def Try.pinned : Pinned := { name := "ytnfggkopledpcaa", sum := "eea0a1963bce98676523ddac427142803b59a4ecfed96b52faaccdf2b990f347", checked := Try.checked }
namespace Rows
def none {H : Type} : Left H := { results := [], args := [] }

/-- 'turretlaw04.DialOffs': WHATEVER THE INPUT: true; the input reads as it did. -/
def dialOffsSpec : ChangeSpec := { name := "dialOffs", fn := fun _ => fun
  | [d1, d2, d3] => { results := [.lit (.bool true)], args := [d1, d2, d3] }
  | _ => none }
def dialOffsRow : OpenClaim := { program := "ytnfggkopledpcaa", sum := "eea0a1963bce98676523ddac427142803b59a4ecfed96b52faaccdf2b990f347", func := "turret/turretlaw04.DialOffs", spec := "dialOffs", unfollowed := true, recurses := true, apart := false }
def DialOffsSaid : Prop := dialOffsRow.holds Try.pinned (OpenSpec.ofChange dialOffsSpec)

/-- ITS FALSE NEIGHBOUR: 'it returns false'. Refute it at one input. -/
def dialOffsWrong : ChangeSpec := { name := "dialOffs", fn := fun _ => fun
  | [d1, d2, d3] => { results := [.lit (.bool false)], args := [d1, d2, d3] }
  | _ => none }
def DialOffsWrongFalsely : Prop := dialOffsRow.holds Try.pinned (OpenSpec.ofChange dialOffsWrong)

/-- 'turretlaw04.DialShows': WHATEVER THE INPUT: true; the input reads as it did. -/
def dialShowsSpec : ChangeSpec := { name := "dialShows", fn := fun _ => fun
  | [d1, d2] => { results := [.lit (.bool true)], args := [d1, d2] }
  | _ => none }
def dialShowsRow : OpenClaim := { program := "ytnfggkopledpcaa", sum := "eea0a1963bce98676523ddac427142803b59a4ecfed96b52faaccdf2b990f347", func := "turret/turretlaw04.DialShows", spec := "dialShows", unfollowed := true, recurses := true, apart := false }
def DialShowsSaid : Prop := dialShowsRow.holds Try.pinned (OpenSpec.ofChange dialShowsSpec)

/-- ITS FALSE NEIGHBOUR: 'it returns false'. Refute it at one input. -/
def dialShowsWrong : ChangeSpec := { name := "dialShows", fn := fun _ => fun
  | [d1, d2] => { results := [.lit (.bool false)], args := [d1, d2] }
  | _ => none }
def DialShowsWrongFalsely : Prop := dialShowsRow.holds Try.pinned (OpenSpec.ofChange dialShowsWrong)

/-- 'turretlaw04.DialTruths': WHATEVER THE INPUT: true; the input reads as it did. -/
def dialTruthsSpec : ChangeSpec := { name := "dialTruths", fn := fun _ => fun
  | [d1, d2, d3] => { results := [.lit (.bool true)], args := [d1, d2, d3] }
  | _ => none }
def dialTruthsRow : OpenClaim := { program := "ytnfggkopledpcaa", sum := "eea0a1963bce98676523ddac427142803b59a4ecfed96b52faaccdf2b990f347", func := "turret/turretlaw04.DialTruths", spec := "dialTruths", unfollowed := true, recurses := true, apart := false }
def DialTruthsSaid : Prop := dialTruthsRow.holds Try.pinned (OpenSpec.ofChange dialTruthsSpec)

/-- ITS FALSE NEIGHBOUR: 'it returns false'. Refute it at one input. -/
def dialTruthsWrong : ChangeSpec := { name := "dialTruths", fn := fun _ => fun
  | [d1, d2, d3] => { results := [.lit (.bool false)], args := [d1, d2, d3] }
  | _ => none }
def DialTruthsWrongFalsely : Prop := dialTruthsRow.holds Try.pinned (OpenSpec.ofChange dialTruthsWrong)

/-- 'turretlaw04.DialEnds': WHATEVER THE INPUT: true; the input reads as it did. -/
def dialEndsSpec : ChangeSpec := { name := "dialEnds", fn := fun _ => fun
  | [d1, d2] => { results := [.lit (.bool true)], args := [d1, d2] }
  | _ => none }
def dialEndsRow : OpenClaim := { program := "ytnfggkopledpcaa", sum := "eea0a1963bce98676523ddac427142803b59a4ecfed96b52faaccdf2b990f347", func := "turret/turretlaw04.DialEnds", spec := "dialEnds", unfollowed := true, recurses := true, apart := false }
def DialEndsSaid : Prop := dialEndsRow.holds Try.pinned (OpenSpec.ofChange dialEndsSpec)

/-- ITS FALSE NEIGHBOUR: 'it returns false'. Refute it at one input. -/
def dialEndsWrong : ChangeSpec := { name := "dialEnds", fn := fun _ => fun
  | [d1, d2] => { results := [.lit (.bool false)], args := [d1, d2] }
  | _ => none }
def DialEndsWrongFalsely : Prop := dialEndsRow.holds Try.pinned (OpenSpec.ofChange dialEndsWrong)

/-- 'turretlaw04.DialNarrow': WHATEVER THE INPUT: true; the input reads as it did. -/
def dialNarrowSpec : ChangeSpec := { name := "dialNarrow", fn := fun _ => fun
  | [d1, d2, d3] => { results := [.lit (.bool true)], args := [d1, d2, d3] }
  | _ => none }
def dialNarrowRow : OpenClaim := { program := "ytnfggkopledpcaa", sum := "eea0a1963bce98676523ddac427142803b59a4ecfed96b52faaccdf2b990f347", func := "turret/turretlaw04.DialNarrow", spec := "dialNarrow", unfollowed := true, recurses := true, apart := false }
def DialNarrowSaid : Prop := dialNarrowRow.holds Try.pinned (OpenSpec.ofChange dialNarrowSpec)

/-- ITS FALSE NEIGHBOUR: 'it returns false'. Refute it at one input. -/
def dialNarrowWrong : ChangeSpec := { name := "dialNarrow", fn := fun _ => fun
  | [d1, d2, d3] => { results := [.lit (.bool false)], args := [d1, d2, d3] }
  | _ => none }
def DialNarrowWrongFalsely : Prop := dialNarrowRow.holds Try.pinned (OpenSpec.ofChange dialNarrowWrong)

/-- 'turretlaw04.DialTurned': WHATEVER THE INPUT: true; the input reads as it did. -/
def dialTurnedSpec : ChangeSpec := { name := "dialTurned", fn := fun _ => fun
  | [d1, d2, d3] => { results := [.lit (.bool true)], args := [d1, d2, d3] }
  | _ => none }
def dialTurnedRow : OpenClaim := { program := "ytnfggkopledpcaa", sum := "eea0a1963bce98676523ddac427142803b59a4ecfed96b52faaccdf2b990f347", func := "turret/turretlaw04.DialTurned", spec := "dialTurned", unfollowed := true, recurses := true, apart := false }
def DialTurnedSaid : Prop := dialTurnedRow.holds Try.pinned (OpenSpec.ofChange dialTurnedSpec)

/-- ITS FALSE NEIGHBOUR: 'it returns false'. Refute it at one input. -/
def dialTurnedWrong : ChangeSpec := { name := "dialTurned", fn := fun _ => fun
  | [d1, d2, d3] => { results := [.lit (.bool false)], args := [d1, d2, d3] }
  | _ => none }
def DialTurnedWrongFalsely : Prop := dialTurnedRow.holds Try.pinned (OpenSpec.ofChange dialTurnedWrong)

/-- 'turretlaw04.DialSteady': WHATEVER THE INPUT: true; the input reads as it did. -/
def dialSteadySpec : ChangeSpec := { name := "dialSteady", fn := fun _ => fun
  | [d1, d2, d3] => { results := [.lit (.bool true)], args := [d1, d2, d3] }
  | _ => none }
def dialSteadyRow : OpenClaim := { program := "ytnfggkopledpcaa", sum := "eea0a1963bce98676523ddac427142803b59a4ecfed96b52faaccdf2b990f347", func := "turret/turretlaw04.DialSteady", spec := "dialSteady", unfollowed := true, recurses := true, apart := false }
def DialSteadySaid : Prop := dialSteadyRow.holds Try.pinned (OpenSpec.ofChange dialSteadySpec)

/-- ITS FALSE NEIGHBOUR: 'it returns false'. Refute it at one input. -/
def dialSteadyWrong : ChangeSpec := { name := "dialSteady", fn := fun _ => fun
  | [d1, d2, d3] => { results := [.lit (.bool false)], args := [d1, d2, d3] }
  | _ => none }
def DialSteadyWrongFalsely : Prop := dialSteadyRow.holds Try.pinned (OpenSpec.ofChange dialSteadyWrong)

/-- 'turretlaw04.DialChecks': WHATEVER THE INPUT: true; the input reads as it did. -/
def dialChecksSpec : ChangeSpec := { name := "dialChecks", fn := fun _ => fun
  | [d1, d2, d3] => { results := [.lit (.bool true)], args := [d1, d2, d3] }
  | _ => none }
def dialChecksRow : OpenClaim := { program := "ytnfggkopledpcaa", sum := "eea0a1963bce98676523ddac427142803b59a4ecfed96b52faaccdf2b990f347", func := "turret/turretlaw04.DialChecks", spec := "dialChecks", unfollowed := true, recurses := true, apart := false }
def DialChecksSaid : Prop := dialChecksRow.holds Try.pinned (OpenSpec.ofChange dialChecksSpec)

/-- ITS FALSE NEIGHBOUR: 'it returns false'. Refute it at one input. -/
def dialChecksWrong : ChangeSpec := { name := "dialChecks", fn := fun _ => fun
  | [d1, d2, d3] => { results := [.lit (.bool false)], args := [d1, d2, d3] }
  | _ => none }
def DialChecksWrongFalsely : Prop := dialChecksRow.holds Try.pinned (OpenSpec.ofChange dialChecksWrong)

/- THE SECOND FORM. 'bulk': how many values and letters a reading holds, each counted each time it is reached (what is shared counts as often as it is met; a slice's spare places count too). A statement '..UptoSaid' is the law's where the arguments, and the package variables that the reading takes, are together of bulk at most 1048576: NARROWER than '..Said'. Prove '..Said' where nothing that the law and all that it calls make is longer than what came in: it says more and counts as full. Else prove '..UptoSaid'. A law counts once. -/
mutual
def uptoBulk {H : Type} : DataW H → Nat
  | .lit (.string bytes) => bytes.length + 1
  | .lit _ => 1
  | .nil => 1
  | .ptr d => uptoBulk d + 1
  | .slice elems spare => uptoBulkAll elems + uptoBulkAll spare + 1
  | .agg parts => uptoBulkAll parts + 1
  | .iface _ d => uptoBulk d + 1
  | .map entries => uptoBulkEntries entries + 1
  | .held _ => 1
def uptoBulkAll {H : Type} : List (DataW H) → Nat
  | [] => 0
  | d :: r => uptoBulk d + uptoBulkAll r
def uptoBulkEntries {H : Type} : List (Lit × DataW H) → Nat
  | [] => 0
  | x :: r => uptoBulkEntry x + uptoBulkEntries r
def uptoBulkEntry {H : Type} : Lit × DataW H → Nat
  | (.string bytes, d) => bytes.length + uptoBulk d + 1
  | (_, d) => uptoBulk d + 1
 end
def uptoSmall : (H : Type) → List (DataW H) → Bool := fun _ ds => decide (uptoBulkAll ds ≤ 1048576)
def OpenSpec.upto (s : _root_.Go.ChangeSpec) : _root_.Go.OpenSpec := { _root_.Go.OpenSpec.ofChange s with cond := some uptoSmall }

/-- 'turretlaw04.DialOffs', WHERE WHAT IT READS IS OF BULK AT MOST 1048576: true; the input reads as it did. -/
def dialOffsUptoRow : OpenClaim := { program := "ytnfggkopledpcaa", sum := "eea0a1963bce98676523ddac427142803b59a4ecfed96b52faaccdf2b990f347", func := "turret/turretlaw04.DialOffs", spec := "dialOffs", unfollowed := true, recurses := true, apart := false, narrowed := true }
def DialOffsUptoSaid : Prop := dialOffsUptoRow.holds Try.pinned (OpenSpec.upto dialOffsSpec)

/-- 'turretlaw04.DialShows', WHERE WHAT IT READS IS OF BULK AT MOST 1048576: true; the input reads as it did. -/
def dialShowsUptoRow : OpenClaim := { program := "ytnfggkopledpcaa", sum := "eea0a1963bce98676523ddac427142803b59a4ecfed96b52faaccdf2b990f347", func := "turret/turretlaw04.DialShows", spec := "dialShows", unfollowed := true, recurses := true, apart := false, narrowed := true }
def DialShowsUptoSaid : Prop := dialShowsUptoRow.holds Try.pinned (OpenSpec.upto dialShowsSpec)

/-- 'turretlaw04.DialTruths', WHERE WHAT IT READS IS OF BULK AT MOST 1048576: true; the input reads as it did. -/
def dialTruthsUptoRow : OpenClaim := { program := "ytnfggkopledpcaa", sum := "eea0a1963bce98676523ddac427142803b59a4ecfed96b52faaccdf2b990f347", func := "turret/turretlaw04.DialTruths", spec := "dialTruths", unfollowed := true, recurses := true, apart := false, narrowed := true }
def DialTruthsUptoSaid : Prop := dialTruthsUptoRow.holds Try.pinned (OpenSpec.upto dialTruthsSpec)

/-- 'turretlaw04.DialEnds', WHERE WHAT IT READS IS OF BULK AT MOST 1048576: true; the input reads as it did. -/
def dialEndsUptoRow : OpenClaim := { program := "ytnfggkopledpcaa", sum := "eea0a1963bce98676523ddac427142803b59a4ecfed96b52faaccdf2b990f347", func := "turret/turretlaw04.DialEnds", spec := "dialEnds", unfollowed := true, recurses := true, apart := false, narrowed := true }
def DialEndsUptoSaid : Prop := dialEndsUptoRow.holds Try.pinned (OpenSpec.upto dialEndsSpec)

/-- 'turretlaw04.DialNarrow', WHERE WHAT IT READS IS OF BULK AT MOST 1048576: true; the input reads as it did. -/
def dialNarrowUptoRow : OpenClaim := { program := "ytnfggkopledpcaa", sum := "eea0a1963bce98676523ddac427142803b59a4ecfed96b52faaccdf2b990f347", func := "turret/turretlaw04.DialNarrow", spec := "dialNarrow", unfollowed := true, recurses := true, apart := false, narrowed := true }
def DialNarrowUptoSaid : Prop := dialNarrowUptoRow.holds Try.pinned (OpenSpec.upto dialNarrowSpec)

/-- 'turretlaw04.DialTurned', WHERE WHAT IT READS IS OF BULK AT MOST 1048576: true; the input reads as it did. -/
def dialTurnedUptoRow : OpenClaim := { program := "ytnfggkopledpcaa", sum := "eea0a1963bce98676523ddac427142803b59a4ecfed96b52faaccdf2b990f347", func := "turret/turretlaw04.DialTurned", spec := "dialTurned", unfollowed := true, recurses := true, apart := false, narrowed := true }
def DialTurnedUptoSaid : Prop := dialTurnedUptoRow.holds Try.pinned (OpenSpec.upto dialTurnedSpec)

/-- 'turretlaw04.DialSteady', WHERE WHAT IT READS IS OF BULK AT MOST 1048576: true; the input reads as it did. -/
def dialSteadyUptoRow : OpenClaim := { program := "ytnfggkopledpcaa", sum := "eea0a1963bce98676523ddac427142803b59a4ecfed96b52faaccdf2b990f347", func := "turret/turretlaw04.DialSteady", spec := "dialSteady", unfollowed := true, recurses := true, apart := false, narrowed := true }
def DialSteadyUptoSaid : Prop := dialSteadyUptoRow.holds Try.pinned (OpenSpec.upto dialSteadySpec)

/-- 'turretlaw04.DialChecks', WHERE WHAT IT READS IS OF BULK AT MOST 1048576: true; the input reads as it did. -/
def dialChecksUptoRow : OpenClaim := { program := "ytnfggkopledpcaa", sum := "eea0a1963bce98676523ddac427142803b59a4ecfed96b52faaccdf2b990f347", func := "turret/turretlaw04.DialChecks", spec := "dialChecks", unfollowed := true, recurses := true, apart := false, narrowed := true }
def DialChecksUptoSaid : Prop := dialChecksUptoRow.holds Try.pinned (OpenSpec.upto dialChecksSpec)

end Rows
end Go.Proofs.Ytnfggkopledpcaa
