/-
  No cell of these rows narrows 'for every input' (looked for: loops, veiled, ifaces, maps, wideKeys, modest, calm, conditions, laid).
  DERIVED. THE GIVEN ROWS OF THIS SEAT. 11 by the template 'for every input the law returns true; each argument reads behind the call as it read before'; 0 by the template 'total and deterministic' (their statements: YtdgplebmlggmcaaTotals.lean).
  GIVEN WITH THE SEED: the statements are not yours to turn. If you find one false, say at which input.
  Laid BY PROGRAM, IN A SANDBOX (cutbox-rows.mjs): the forced cells as the released guide's own fill.sh prints them over the translation 3c27061c180e09c7… (all of the seat's roots in one cut). By AI agents, Wed Nov 11 2026. No macro, syntax, notation, axiom, sorry.
-/
import Derived.Test.YtdgplebmlggmcaaChecked
import GoSem.Claim
import GoSem.ClaimJoined
import GoSem.ClaimMapViews
import Derived.JoinedTies
import Derived.KernelRfl
namespace Go.Proofs.Ytdgplebmlggmcaa
/- THE CELL 'sum', in the pinned program and in every row, IS THE sha256 OF THE DUMP (.gsa) THAT YtdgplebmlggmcaaProg.lean LOADS. Nothing in Lean hashes anything: it is a label: what it is worth is what the hold of that sum in a sandbox is worth. -/
noncomputable def Try.pinned : Pinned := { name := "ytdgplebmlggmcaa", sum := "3c27061c180e09c7d61c24ce0c3615346fdadcb8db377a06cf88a0911d2927c8", checked := Try.checked }
namespace Rows
def none {H : Type} : Left H := { results := [], args := [] }

/-- 'turretlaw06.ChimeClashes': WHATEVER THE INPUT: true; the input reads as it did. -/
def chimeClashesSpec : ChangeSpec := { name := "chimeClashes", fn := fun _ => fun
  | [d] => { results := [.lit (.bool true)], args := [d] }
  | _ => none }
def chimeClashesRow : OpenClaim := { program := "ytdgplebmlggmcaa", sum := "3c27061c180e09c7d61c24ce0c3615346fdadcb8db377a06cf88a0911d2927c8", func := "turret/turretlaw06.ChimeClashes", spec := "chimeClashes", unfollowed := true, recurses := true, plainKeys := false, apart := false }
def ChimeClashesSaid : Prop := chimeClashesRow.holds Try.pinned (OpenSpec.ofChange chimeClashesSpec)

/-- ITS FALSE NEIGHBOUR: 'it returns false'. Refute it at one input. -/
def chimeClashesWrong : ChangeSpec := { name := "chimeClashes", fn := fun _ => fun
  | [d] => { results := [.lit (.bool false)], args := [d] }
  | _ => none }
def ChimeClashesWrongFalsely : Prop := chimeClashesRow.holds Try.pinned (OpenSpec.ofChange chimeClashesWrong)

/-- 'turretlaw06.ChimePlays': WHATEVER THE INPUT: true; the input reads as it did. -/
def chimePlaysSpec : ChangeSpec := { name := "chimePlays", fn := fun _ => fun
  | [d1, d2] => { results := [.lit (.bool true)], args := [d1, d2] }
  | _ => none }
def chimePlaysRow : OpenClaim := { program := "ytdgplebmlggmcaa", sum := "3c27061c180e09c7d61c24ce0c3615346fdadcb8db377a06cf88a0911d2927c8", func := "turret/turretlaw06.ChimePlays", spec := "chimePlays", unfollowed := true, recurses := true, plainKeys := false, apart := false }
def ChimePlaysSaid : Prop := chimePlaysRow.holds Try.pinned (OpenSpec.ofChange chimePlaysSpec)

/-- ITS FALSE NEIGHBOUR: 'it returns false'. Refute it at one input. -/
def chimePlaysWrong : ChangeSpec := { name := "chimePlays", fn := fun _ => fun
  | [d1, d2] => { results := [.lit (.bool false)], args := [d1, d2] }
  | _ => none }
def ChimePlaysWrongFalsely : Prop := chimePlaysRow.holds Try.pinned (OpenSpec.ofChange chimePlaysWrong)

/-- 'turretlaw06.ChimeHeards': WHATEVER THE INPUT: true; the input reads as it did. -/
def chimeHeardsSpec : ChangeSpec := { name := "chimeHeards", fn := fun _ => fun
  | [d1, d2, d3] => { results := [.lit (.bool true)], args := [d1, d2, d3] }
  | _ => none }
def chimeHeardsRow : OpenClaim := { program := "ytdgplebmlggmcaa", sum := "3c27061c180e09c7d61c24ce0c3615346fdadcb8db377a06cf88a0911d2927c8", func := "turret/turretlaw06.ChimeHeards", spec := "chimeHeards", unfollowed := true, recurses := true, plainKeys := false, apart := false }
def ChimeHeardsSaid : Prop := chimeHeardsRow.holds Try.pinned (OpenSpec.ofChange chimeHeardsSpec)

/-- ITS FALSE NEIGHBOUR: 'it returns false'. Refute it at one input. -/
def chimeHeardsWrong : ChangeSpec := { name := "chimeHeards", fn := fun _ => fun
  | [d1, d2, d3] => { results := [.lit (.bool false)], args := [d1, d2, d3] }
  | _ => none }
def ChimeHeardsWrongFalsely : Prop := chimeHeardsRow.holds Try.pinned (OpenSpec.ofChange chimeHeardsWrong)

/-- 'turretlaw06.ChimeFewests': WHATEVER THE INPUT: true; the input reads as it did. -/
def chimeFewestsSpec : ChangeSpec := { name := "chimeFewests", fn := fun _ => fun
  | [d1, d2] => { results := [.lit (.bool true)], args := [d1, d2] }
  | _ => none }
def chimeFewestsRow : OpenClaim := { program := "ytdgplebmlggmcaa", sum := "3c27061c180e09c7d61c24ce0c3615346fdadcb8db377a06cf88a0911d2927c8", func := "turret/turretlaw06.ChimeFewests", spec := "chimeFewests", unfollowed := true, recurses := true, plainKeys := false, apart := false }
def ChimeFewestsSaid : Prop := chimeFewestsRow.holds Try.pinned (OpenSpec.ofChange chimeFewestsSpec)

/-- ITS FALSE NEIGHBOUR: 'it returns false'. Refute it at one input. -/
def chimeFewestsWrong : ChangeSpec := { name := "chimeFewests", fn := fun _ => fun
  | [d1, d2] => { results := [.lit (.bool false)], args := [d1, d2] }
  | _ => none }
def ChimeFewestsWrongFalsely : Prop := chimeFewestsRow.holds Try.pinned (OpenSpec.ofChange chimeFewestsWrong)

/-- 'turretlaw06.ChimePins': WHATEVER THE INPUT: true; the input reads as it did. -/
def chimePinsSpec : ChangeSpec := { name := "chimePins", fn := fun _ => fun
  | [d1, d2] => { results := [.lit (.bool true)], args := [d1, d2] }
  | _ => none }
def chimePinsRow : OpenClaim := { program := "ytdgplebmlggmcaa", sum := "3c27061c180e09c7d61c24ce0c3615346fdadcb8db377a06cf88a0911d2927c8", func := "turret/turretlaw06.ChimePins", spec := "chimePins", unfollowed := true, recurses := true, plainKeys := false, apart := false }
def ChimePinsSaid : Prop := chimePinsRow.holds Try.pinned (OpenSpec.ofChange chimePinsSpec)

/-- ITS FALSE NEIGHBOUR: 'it returns false'. Refute it at one input. -/
def chimePinsWrong : ChangeSpec := { name := "chimePins", fn := fun _ => fun
  | [d1, d2] => { results := [.lit (.bool false)], args := [d1, d2] }
  | _ => none }
def ChimePinsWrongFalsely : Prop := chimePinsRow.holds Try.pinned (OpenSpec.ofChange chimePinsWrong)

/-- 'turretlaw06.ChimeMeets': WHATEVER THE INPUT: true; the input reads as it did. -/
def chimeMeetsSpec : ChangeSpec := { name := "chimeMeets", fn := fun _ => fun
  | [d1, d2] => { results := [.lit (.bool true)], args := [d1, d2] }
  | _ => none }
def chimeMeetsRow : OpenClaim := { program := "ytdgplebmlggmcaa", sum := "3c27061c180e09c7d61c24ce0c3615346fdadcb8db377a06cf88a0911d2927c8", func := "turret/turretlaw06.ChimeMeets", spec := "chimeMeets", unfollowed := true, recurses := true, plainKeys := false, apart := false }
def ChimeMeetsSaid : Prop := chimeMeetsRow.holds Try.pinned (OpenSpec.ofChange chimeMeetsSpec)

/-- ITS FALSE NEIGHBOUR: 'it returns false'. Refute it at one input. -/
def chimeMeetsWrong : ChangeSpec := { name := "chimeMeets", fn := fun _ => fun
  | [d1, d2] => { results := [.lit (.bool false)], args := [d1, d2] }
  | _ => none }
def ChimeMeetsWrongFalsely : Prop := chimeMeetsRow.holds Try.pinned (OpenSpec.ofChange chimeMeetsWrong)

/-- 'turretlaw06.ChimeTurns': WHATEVER THE INPUT: true; the input reads as it did. -/
def chimeTurnsSpec : ChangeSpec := { name := "chimeTurns", fn := fun _ => fun
  | [d1, d2] => { results := [.lit (.bool true)], args := [d1, d2] }
  | _ => none }
def chimeTurnsRow : OpenClaim := { program := "ytdgplebmlggmcaa", sum := "3c27061c180e09c7d61c24ce0c3615346fdadcb8db377a06cf88a0911d2927c8", func := "turret/turretlaw06.ChimeTurns", spec := "chimeTurns", unfollowed := true, recurses := true, plainKeys := false, apart := false }
def ChimeTurnsSaid : Prop := chimeTurnsRow.holds Try.pinned (OpenSpec.ofChange chimeTurnsSpec)

/-- ITS FALSE NEIGHBOUR: 'it returns false'. Refute it at one input. -/
def chimeTurnsWrong : ChangeSpec := { name := "chimeTurns", fn := fun _ => fun
  | [d1, d2] => { results := [.lit (.bool false)], args := [d1, d2] }
  | _ => none }
def ChimeTurnsWrongFalsely : Prop := chimeTurnsRow.holds Try.pinned (OpenSpec.ofChange chimeTurnsWrong)

/-- 'turretlaw06.ChimeStep': WHATEVER THE INPUT: true; the input reads as it did. -/
def chimeStepSpec : ChangeSpec := { name := "chimeStep", fn := fun _ => fun
  | [d1, d2] => { results := [.lit (.bool true)], args := [d1, d2] }
  | _ => none }
def chimeStepRow : OpenClaim := { program := "ytdgplebmlggmcaa", sum := "3c27061c180e09c7d61c24ce0c3615346fdadcb8db377a06cf88a0911d2927c8", func := "turret/turretlaw06.ChimeStep", spec := "chimeStep", unfollowed := true, recurses := true, plainKeys := false, apart := false }
def ChimeStepSaid : Prop := chimeStepRow.holds Try.pinned (OpenSpec.ofChange chimeStepSpec)

/-- ITS FALSE NEIGHBOUR: 'it returns false'. Refute it at one input. -/
def chimeStepWrong : ChangeSpec := { name := "chimeStep", fn := fun _ => fun
  | [d1, d2] => { results := [.lit (.bool false)], args := [d1, d2] }
  | _ => none }
def ChimeStepWrongFalsely : Prop := chimeStepRow.holds Try.pinned (OpenSpec.ofChange chimeStepWrong)

/-- 'turretlaw06.ChimeEnough': WHATEVER THE INPUT: true; the input reads as it did. -/
def chimeEnoughSpec : ChangeSpec := { name := "chimeEnough", fn := fun _ => fun
  | [d1, d2] => { results := [.lit (.bool true)], args := [d1, d2] }
  | _ => none }
def chimeEnoughRow : OpenClaim := { program := "ytdgplebmlggmcaa", sum := "3c27061c180e09c7d61c24ce0c3615346fdadcb8db377a06cf88a0911d2927c8", func := "turret/turretlaw06.ChimeEnough", spec := "chimeEnough", unfollowed := true, recurses := true, plainKeys := false, apart := false }
def ChimeEnoughSaid : Prop := chimeEnoughRow.holds Try.pinned (OpenSpec.ofChange chimeEnoughSpec)

/-- ITS FALSE NEIGHBOUR: 'it returns false'. Refute it at one input. -/
def chimeEnoughWrong : ChangeSpec := { name := "chimeEnough", fn := fun _ => fun
  | [d1, d2] => { results := [.lit (.bool false)], args := [d1, d2] }
  | _ => none }
def ChimeEnoughWrongFalsely : Prop := chimeEnoughRow.holds Try.pinned (OpenSpec.ofChange chimeEnoughWrong)

/-- 'turretlaw06.ChimeTunes': WHATEVER THE INPUT: true; the input reads as it did. -/
def chimeTunesSpec : ChangeSpec := { name := "chimeTunes", fn := fun _ => fun
  | [d1, d2, d3] => { results := [.lit (.bool true)], args := [d1, d2, d3] }
  | _ => none }
def chimeTunesRow : OpenClaim := { program := "ytdgplebmlggmcaa", sum := "3c27061c180e09c7d61c24ce0c3615346fdadcb8db377a06cf88a0911d2927c8", func := "turret/turretlaw06.ChimeTunes", spec := "chimeTunes", unfollowed := true, recurses := true, plainKeys := false, apart := false }
def ChimeTunesSaid : Prop := chimeTunesRow.holds Try.pinned (OpenSpec.ofChange chimeTunesSpec)

/-- ITS FALSE NEIGHBOUR: 'it returns false'. Refute it at one input. -/
def chimeTunesWrong : ChangeSpec := { name := "chimeTunes", fn := fun _ => fun
  | [d1, d2, d3] => { results := [.lit (.bool false)], args := [d1, d2, d3] }
  | _ => none }
def ChimeTunesWrongFalsely : Prop := chimeTunesRow.holds Try.pinned (OpenSpec.ofChange chimeTunesWrong)

/-- 'turretlaw06.ChimeFigures': WHATEVER THE INPUT: true; the input reads as it did. -/
def chimeFiguresSpec : ChangeSpec := { name := "chimeFigures", fn := fun _ => fun
  | [d1, d2, d3] => { results := [.lit (.bool true)], args := [d1, d2, d3] }
  | _ => none }
def chimeFiguresRow : OpenClaim := { program := "ytdgplebmlggmcaa", sum := "3c27061c180e09c7d61c24ce0c3615346fdadcb8db377a06cf88a0911d2927c8", func := "turret/turretlaw06.ChimeFigures", spec := "chimeFigures", unfollowed := true, recurses := true, plainKeys := false, apart := false }
def ChimeFiguresSaid : Prop := chimeFiguresRow.holds Try.pinned (OpenSpec.ofChange chimeFiguresSpec)

/-- ITS FALSE NEIGHBOUR: 'it returns false'. Refute it at one input. -/
def chimeFiguresWrong : ChangeSpec := { name := "chimeFigures", fn := fun _ => fun
  | [d1, d2, d3] => { results := [.lit (.bool false)], args := [d1, d2, d3] }
  | _ => none }
def ChimeFiguresWrongFalsely : Prop := chimeFiguresRow.holds Try.pinned (OpenSpec.ofChange chimeFiguresWrong)

/- THE SECOND FORM. 'bulk': how many values and letters a reading holds, each counted each time it is reached (what is shared counts as often as it is met; a slice's spare places count too). A statement '..UptoSaid' is the law's where the arguments, and the package variables that the reading takes, are together of bulk at most 1048576: NARROWER than '..Said'. Prove '..Said' where nothing that the law and all that it calls make is longer than what came in: it says more and counts as full. Else prove '..UptoSaid'. A law counts once. -/
mutual
def uptoBulk {H : Type} : DataW H → Nat
  | .lit (.string bytes) => bytes.length + 1
  | .lit _ => 1
  | .nil => 1
  | .ptr d => uptoBulk d + 1
  | .slice elems spare => uptoBulkAll elems + uptoBulkAll spare + 1
  | .agg parts => uptoBulkAll parts + 1
  | .iface _ d => uptoBulk d + 1
  | .map entries => uptoBulkEntries entries + 1
  | .held _ => 1
def uptoBulkAll {H : Type} : List (DataW H) → Nat
  | [] => 0
  | d :: r => uptoBulk d + uptoBulkAll r
def uptoBulkEntries {H : Type} : List (Lit × DataW H) → Nat
  | [] => 0
  | x :: r => uptoBulkEntry x + uptoBulkEntries r
def uptoBulkEntry {H : Type} : Lit × DataW H → Nat
  | (.string bytes, d) => bytes.length + uptoBulk d + 1
  | (_, d) => uptoBulk d + 1
 end
def uptoSmall : (H : Type) → List (DataW H) → Bool := fun _ ds => decide (uptoBulkAll ds ≤ 1048576)
def OpenSpec.upto (s : _root_.Go.ChangeSpec) : _root_.Go.OpenSpec := { _root_.Go.OpenSpec.ofChange s with cond := some uptoSmall }

/-- 'turretlaw06.ChimeClashes', WHERE WHAT IT READS IS OF BULK AT MOST 1048576: true; the input reads as it did. -/
def chimeClashesUptoRow : OpenClaim := { program := "ytdgplebmlggmcaa", sum := "3c27061c180e09c7d61c24ce0c3615346fdadcb8db377a06cf88a0911d2927c8", func := "turret/turretlaw06.ChimeClashes", spec := "chimeClashes", unfollowed := true, recurses := true, plainKeys := false, apart := false, narrowed := true }
def ChimeClashesUptoSaid : Prop := chimeClashesUptoRow.holds Try.pinned (OpenSpec.upto chimeClashesSpec)

/-- 'turretlaw06.ChimePlays', WHERE WHAT IT READS IS OF BULK AT MOST 1048576: true; the input reads as it did. -/
def chimePlaysUptoRow : OpenClaim := { program := "ytdgplebmlggmcaa", sum := "3c27061c180e09c7d61c24ce0c3615346fdadcb8db377a06cf88a0911d2927c8", func := "turret/turretlaw06.ChimePlays", spec := "chimePlays", unfollowed := true, recurses := true, plainKeys := false, apart := false, narrowed := true }
def ChimePlaysUptoSaid : Prop := chimePlaysUptoRow.holds Try.pinned (OpenSpec.upto chimePlaysSpec)

/-- 'turretlaw06.ChimeHeards', WHERE WHAT IT READS IS OF BULK AT MOST 1048576: true; the input reads as it did. -/
def chimeHeardsUptoRow : OpenClaim := { program := "ytdgplebmlggmcaa", sum := "3c27061c180e09c7d61c24ce0c3615346fdadcb8db377a06cf88a0911d2927c8", func := "turret/turretlaw06.ChimeHeards", spec := "chimeHeards", unfollowed := true, recurses := true, plainKeys := false, apart := false, narrowed := true }
def ChimeHeardsUptoSaid : Prop := chimeHeardsUptoRow.holds Try.pinned (OpenSpec.upto chimeHeardsSpec)

/-- 'turretlaw06.ChimeFewests', WHERE WHAT IT READS IS OF BULK AT MOST 1048576: true; the input reads as it did. -/
def chimeFewestsUptoRow : OpenClaim := { program := "ytdgplebmlggmcaa", sum := "3c27061c180e09c7d61c24ce0c3615346fdadcb8db377a06cf88a0911d2927c8", func := "turret/turretlaw06.ChimeFewests", spec := "chimeFewests", unfollowed := true, recurses := true, plainKeys := false, apart := false, narrowed := true }
def ChimeFewestsUptoSaid : Prop := chimeFewestsUptoRow.holds Try.pinned (OpenSpec.upto chimeFewestsSpec)

/-- 'turretlaw06.ChimePins', WHERE WHAT IT READS IS OF BULK AT MOST 1048576: true; the input reads as it did. -/
def chimePinsUptoRow : OpenClaim := { program := "ytdgplebmlggmcaa", sum := "3c27061c180e09c7d61c24ce0c3615346fdadcb8db377a06cf88a0911d2927c8", func := "turret/turretlaw06.ChimePins", spec := "chimePins", unfollowed := true, recurses := true, plainKeys := false, apart := false, narrowed := true }
def ChimePinsUptoSaid : Prop := chimePinsUptoRow.holds Try.pinned (OpenSpec.upto chimePinsSpec)

/-- 'turretlaw06.ChimeMeets', WHERE WHAT IT READS IS OF BULK AT MOST 1048576: true; the input reads as it did. -/
def chimeMeetsUptoRow : OpenClaim := { program := "ytdgplebmlggmcaa", sum := "3c27061c180e09c7d61c24ce0c3615346fdadcb8db377a06cf88a0911d2927c8", func := "turret/turretlaw06.ChimeMeets", spec := "chimeMeets", unfollowed := true, recurses := true, plainKeys := false, apart := false, narrowed := true }
def ChimeMeetsUptoSaid : Prop := chimeMeetsUptoRow.holds Try.pinned (OpenSpec.upto chimeMeetsSpec)

/-- 'turretlaw06.ChimeTurns', WHERE WHAT IT READS IS OF BULK AT MOST 1048576: true; the input reads as it did. -/
def chimeTurnsUptoRow : OpenClaim := { program := "ytdgplebmlggmcaa", sum := "3c27061c180e09c7d61c24ce0c3615346fdadcb8db377a06cf88a0911d2927c8", func := "turret/turretlaw06.ChimeTurns", spec := "chimeTurns", unfollowed := true, recurses := true, plainKeys := false, apart := false, narrowed := true }
def ChimeTurnsUptoSaid : Prop := chimeTurnsUptoRow.holds Try.pinned (OpenSpec.upto chimeTurnsSpec)

/-- 'turretlaw06.ChimeStep', WHERE WHAT IT READS IS OF BULK AT MOST 1048576: true; the input reads as it did. -/
def chimeStepUptoRow : OpenClaim := { program := "ytdgplebmlggmcaa", sum := "3c27061c180e09c7d61c24ce0c3615346fdadcb8db377a06cf88a0911d2927c8", func := "turret/turretlaw06.ChimeStep", spec := "chimeStep", unfollowed := true, recurses := true, plainKeys := false, apart := false, narrowed := true }
def ChimeStepUptoSaid : Prop := chimeStepUptoRow.holds Try.pinned (OpenSpec.upto chimeStepSpec)

/-- 'turretlaw06.ChimeEnough', WHERE WHAT IT READS IS OF BULK AT MOST 1048576: true; the input reads as it did. -/
def chimeEnoughUptoRow : OpenClaim := { program := "ytdgplebmlggmcaa", sum := "3c27061c180e09c7d61c24ce0c3615346fdadcb8db377a06cf88a0911d2927c8", func := "turret/turretlaw06.ChimeEnough", spec := "chimeEnough", unfollowed := true, recurses := true, plainKeys := false, apart := false, narrowed := true }
def ChimeEnoughUptoSaid : Prop := chimeEnoughUptoRow.holds Try.pinned (OpenSpec.upto chimeEnoughSpec)

/-- 'turretlaw06.ChimeTunes', WHERE WHAT IT READS IS OF BULK AT MOST 1048576: true; the input reads as it did. -/
def chimeTunesUptoRow : OpenClaim := { program := "ytdgplebmlggmcaa", sum := "3c27061c180e09c7d61c24ce0c3615346fdadcb8db377a06cf88a0911d2927c8", func := "turret/turretlaw06.ChimeTunes", spec := "chimeTunes", unfollowed := true, recurses := true, plainKeys := false, apart := false, narrowed := true }
def ChimeTunesUptoSaid : Prop := chimeTunesUptoRow.holds Try.pinned (OpenSpec.upto chimeTunesSpec)

/-- 'turretlaw06.ChimeFigures', WHERE WHAT IT READS IS OF BULK AT MOST 1048576: true; the input reads as it did. -/
def chimeFiguresUptoRow : OpenClaim := { program := "ytdgplebmlggmcaa", sum := "3c27061c180e09c7d61c24ce0c3615346fdadcb8db377a06cf88a0911d2927c8", func := "turret/turretlaw06.ChimeFigures", spec := "chimeFigures", unfollowed := true, recurses := true, plainKeys := false, apart := false, narrowed := true }
def ChimeFiguresUptoSaid : Prop := chimeFiguresUptoRow.holds Try.pinned (OpenSpec.upto chimeFiguresSpec)

end Rows
end Go.Proofs.Ytdgplebmlggmcaa
