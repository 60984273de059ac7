/-
  No cell of these rows narrows 'for every input' (looked for: loops, veiled, ifaces, maps, wideKeys, modest, calm, conditions, laid).
  DERIVED. THE GIVEN ROWS OF THIS SEAT. 11 by the template 'for every input the law returns true; each argument reads behind the call as it read before'; 0 by the template 'total and deterministic' (their statements: YtammicdgpdnihaaTotals.lean).
  GIVEN WITH THE SEED: the statements are not yours to turn. If you find one false, say at which input.
  Laid BY PROGRAM, IN A SANDBOX (cutbox-rows.mjs): the forced cells as the released guide's own fill.sh prints them over the translation 352b7ad85d324ff8… (all of the seat's roots in one cut). By AI agents, Wed Nov 11 2026. No macro, syntax, notation, axiom, sorry.
-/
import Derived.Test.YtammicdgpdnihaaChecked
import GoSem.Claim
import GoSem.ClaimJoined
import GoSem.ClaimMapViews
import Derived.JoinedTies
import Derived.KernelRfl
namespace Go.Proofs.Ytammicdgpdnihaa
/- THE CELL 'sum', in the pinned program and in every row, IS THE sha256 OF THE DUMP (.gsa) THAT YtammicdgpdnihaaProg.lean LOADS. Nothing in Lean hashes anything: it is a label: what it is worth is what the hold of that sum in a sandbox is worth. -/
noncomputable def Try.pinned : Pinned := { name := "ytammicdgpdnihaa", sum := "352b7ad85d324ff80a69779690bdeba742a967cbcebe5681ee834515fbc1d554", checked := Try.checked }
namespace Rows
def none {H : Type} : Left H := { results := [], args := [] }

/-- 'repertorylaw03.CrcSums': WHATEVER THE INPUT: true; the input reads as it did. -/
def crcSumsSpec : ChangeSpec := { name := "crcSums", fn := fun _ => fun
  | [d] => { results := [.lit (.bool true)], args := [d] }
  | _ => none }
def crcSumsRow : OpenClaim := { program := "ytammicdgpdnihaa", sum := "352b7ad85d324ff80a69779690bdeba742a967cbcebe5681ee834515fbc1d554", func := "repertory/repertorylaw03.CrcSums", spec := "crcSums", apart := false }
def CrcSumsSaid : Prop := crcSumsRow.holds Try.pinned (OpenSpec.ofChange crcSumsSpec)

/-- ITS FALSE NEIGHBOUR: 'it returns false'. Refute it at one input. -/
def crcSumsWrong : ChangeSpec := { name := "crcSums", fn := fun _ => fun
  | [d] => { results := [.lit (.bool false)], args := [d] }
  | _ => none }
def CrcSumsWrongFalsely : Prop := crcSumsRow.holds Try.pinned (OpenSpec.ofChange crcSumsWrong)

/-- 'repertorylaw03.CrcBurst': WHATEVER THE INPUT: true; the input reads as it did. -/
def crcBurstSpec : ChangeSpec := { name := "crcBurst", fn := fun _ => fun
  | [d1, d2, d3] => { results := [.lit (.bool true)], args := [d1, d2, d3] }
  | _ => none }
def crcBurstRow : OpenClaim := { program := "ytammicdgpdnihaa", sum := "352b7ad85d324ff80a69779690bdeba742a967cbcebe5681ee834515fbc1d554", func := "repertory/repertorylaw03.CrcBurst", spec := "crcBurst", apart := false }
def CrcBurstSaid : Prop := crcBurstRow.holds Try.pinned (OpenSpec.ofChange crcBurstSpec)

/-- ITS FALSE NEIGHBOUR: 'it returns false'. Refute it at one input. -/
def crcBurstWrong : ChangeSpec := { name := "crcBurst", fn := fun _ => fun
  | [d1, d2, d3] => { results := [.lit (.bool false)], args := [d1, d2, d3] }
  | _ => none }
def CrcBurstWrongFalsely : Prop := crcBurstRow.holds Try.pinned (OpenSpec.ofChange crcBurstWrong)

/-- 'repertorylaw03.CrcTails': WHATEVER THE INPUT: true; the input reads as it did. -/
def crcTailsSpec : ChangeSpec := { name := "crcTails", fn := fun _ => fun
  | [d1, d2] => { results := [.lit (.bool true)], args := [d1, d2] }
  | _ => none }
def crcTailsRow : OpenClaim := { program := "ytammicdgpdnihaa", sum := "352b7ad85d324ff80a69779690bdeba742a967cbcebe5681ee834515fbc1d554", func := "repertory/repertorylaw03.CrcTails", spec := "crcTails", apart := false }
def CrcTailsSaid : Prop := crcTailsRow.holds Try.pinned (OpenSpec.ofChange crcTailsSpec)

/-- ITS FALSE NEIGHBOUR: 'it returns false'. Refute it at one input. -/
def crcTailsWrong : ChangeSpec := { name := "crcTails", fn := fun _ => fun
  | [d1, d2] => { results := [.lit (.bool false)], args := [d1, d2] }
  | _ => none }
def CrcTailsWrongFalsely : Prop := crcTailsRow.holds Try.pinned (OpenSpec.ofChange crcTailsWrong)

/-- 'repertorylaw03.CrcSteps': WHATEVER THE INPUT: true; the input reads as it did. -/
def crcStepsSpec : ChangeSpec := { name := "crcSteps", fn := fun _ => fun
  | [d1, d2, d3] => { results := [.lit (.bool true)], args := [d1, d2, d3] }
  | _ => none }
def crcStepsRow : OpenClaim := { program := "ytammicdgpdnihaa", sum := "352b7ad85d324ff80a69779690bdeba742a967cbcebe5681ee834515fbc1d554", func := "repertory/repertorylaw03.CrcSteps", spec := "crcSteps", apart := false }
def CrcStepsSaid : Prop := crcStepsRow.holds Try.pinned (OpenSpec.ofChange crcStepsSpec)

/-- ITS FALSE NEIGHBOUR: 'it returns false'. Refute it at one input. -/
def crcStepsWrong : ChangeSpec := { name := "crcSteps", fn := fun _ => fun
  | [d1, d2, d3] => { results := [.lit (.bool false)], args := [d1, d2, d3] }
  | _ => none }
def CrcStepsWrongFalsely : Prop := crcStepsRow.holds Try.pinned (OpenSpec.ofChange crcStepsWrong)

/-- 'repertorylaw06.SevenUnpacks': WHATEVER THE INPUT: true; the input reads as it did. -/
def sevenUnpacksSpec : ChangeSpec := { name := "sevenUnpacks", fn := fun _ => fun
  | [d] => { results := [.lit (.bool true)], args := [d] }
  | _ => none }
def sevenUnpacksRow : OpenClaim := { program := "ytammicdgpdnihaa", sum := "352b7ad85d324ff80a69779690bdeba742a967cbcebe5681ee834515fbc1d554", func := "repertory/repertorylaw06.SevenUnpacks", spec := "sevenUnpacks", apart := false }
def SevenUnpacksSaid : Prop := sevenUnpacksRow.holds Try.pinned (OpenSpec.ofChange sevenUnpacksSpec)

/-- ITS FALSE NEIGHBOUR: 'it returns false'. Refute it at one input. -/
def sevenUnpacksWrong : ChangeSpec := { name := "sevenUnpacks", fn := fun _ => fun
  | [d] => { results := [.lit (.bool false)], args := [d] }
  | _ => none }
def SevenUnpacksWrongFalsely : Prop := sevenUnpacksRow.holds Try.pinned (OpenSpec.ofChange sevenUnpacksWrong)

/-- 'repertorylaw06.SevenBurst': WHATEVER THE INPUT: true; the input reads as it did. -/
def sevenBurstSpec : ChangeSpec := { name := "sevenBurst", fn := fun _ => fun
  | [d1, d2, d3] => { results := [.lit (.bool true)], args := [d1, d2, d3] }
  | _ => none }
def sevenBurstRow : OpenClaim := { program := "ytammicdgpdnihaa", sum := "352b7ad85d324ff80a69779690bdeba742a967cbcebe5681ee834515fbc1d554", func := "repertory/repertorylaw06.SevenBurst", spec := "sevenBurst", apart := false }
def SevenBurstSaid : Prop := sevenBurstRow.holds Try.pinned (OpenSpec.ofChange sevenBurstSpec)

/-- ITS FALSE NEIGHBOUR: 'it returns false'. Refute it at one input. -/
def sevenBurstWrong : ChangeSpec := { name := "sevenBurst", fn := fun _ => fun
  | [d1, d2, d3] => { results := [.lit (.bool false)], args := [d1, d2, d3] }
  | _ => none }
def SevenBurstWrongFalsely : Prop := sevenBurstRow.holds Try.pinned (OpenSpec.ofChange sevenBurstWrong)

/-- 'repertorylaw06.SevenPacks': WHATEVER THE INPUT: true; the input reads as it did. -/
def sevenPacksSpec : ChangeSpec := { name := "sevenPacks", fn := fun _ => fun
  | [d1, d2, d3] => { results := [.lit (.bool true)], args := [d1, d2, d3] }
  | _ => none }
def sevenPacksRow : OpenClaim := { program := "ytammicdgpdnihaa", sum := "352b7ad85d324ff80a69779690bdeba742a967cbcebe5681ee834515fbc1d554", func := "repertory/repertorylaw06.SevenPacks", spec := "sevenPacks", apart := false }
def SevenPacksSaid : Prop := sevenPacksRow.holds Try.pinned (OpenSpec.ofChange sevenPacksSpec)

/-- ITS FALSE NEIGHBOUR: 'it returns false'. Refute it at one input. -/
def sevenPacksWrong : ChangeSpec := { name := "sevenPacks", fn := fun _ => fun
  | [d1, d2, d3] => { results := [.lit (.bool false)], args := [d1, d2, d3] }
  | _ => none }
def SevenPacksWrongFalsely : Prop := sevenPacksRow.holds Try.pinned (OpenSpec.ofChange sevenPacksWrong)

/-- 'repertorylaw07.FrameOpens': WHATEVER THE INPUT: true; the input reads as it did. -/
def frameOpensSpec : ChangeSpec := { name := "frameOpens", fn := fun _ => fun
  | [d] => { results := [.lit (.bool true)], args := [d] }
  | _ => none }
def frameOpensRow : OpenClaim := { program := "ytammicdgpdnihaa", sum := "352b7ad85d324ff80a69779690bdeba742a967cbcebe5681ee834515fbc1d554", func := "repertory/repertorylaw07.FrameOpens", spec := "frameOpens", apart := false }
def FrameOpensSaid : Prop := frameOpensRow.holds Try.pinned (OpenSpec.ofChange frameOpensSpec)

/-- ITS FALSE NEIGHBOUR: 'it returns false'. Refute it at one input. -/
def frameOpensWrong : ChangeSpec := { name := "frameOpens", fn := fun _ => fun
  | [d] => { results := [.lit (.bool false)], args := [d] }
  | _ => none }
def FrameOpensWrongFalsely : Prop := frameOpensRow.holds Try.pinned (OpenSpec.ofChange frameOpensWrong)

/-- 'repertorylaw07.FrameBurst': WHATEVER THE INPUT: true; the input reads as it did. -/
def frameBurstSpec : ChangeSpec := { name := "frameBurst", fn := fun _ => fun
  | [d1, d2, d3, d4] => { results := [.lit (.bool true)], args := [d1, d2, d3, d4] }
  | _ => none }
def frameBurstRow : OpenClaim := { program := "ytammicdgpdnihaa", sum := "352b7ad85d324ff80a69779690bdeba742a967cbcebe5681ee834515fbc1d554", func := "repertory/repertorylaw07.FrameBurst", spec := "frameBurst", apart := false }
def FrameBurstSaid : Prop := frameBurstRow.holds Try.pinned (OpenSpec.ofChange frameBurstSpec)

/-- ITS FALSE NEIGHBOUR: 'it returns false'. Refute it at one input. -/
def frameBurstWrong : ChangeSpec := { name := "frameBurst", fn := fun _ => fun
  | [d1, d2, d3, d4] => { results := [.lit (.bool false)], args := [d1, d2, d3, d4] }
  | _ => none }
def FrameBurstWrongFalsely : Prop := frameBurstRow.holds Try.pinned (OpenSpec.ofChange frameBurstWrong)

/-- 'repertorylaw07.FrameSeals': WHATEVER THE INPUT: true; the input reads as it did. -/
def frameSealsSpec : ChangeSpec := { name := "frameSeals", fn := fun _ => fun
  | [d1, d2, d3] => { results := [.lit (.bool true)], args := [d1, d2, d3] }
  | _ => none }
def frameSealsRow : OpenClaim := { program := "ytammicdgpdnihaa", sum := "352b7ad85d324ff80a69779690bdeba742a967cbcebe5681ee834515fbc1d554", func := "repertory/repertorylaw07.FrameSeals", spec := "frameSeals", apart := false }
def FrameSealsSaid : Prop := frameSealsRow.holds Try.pinned (OpenSpec.ofChange frameSealsSpec)

/-- ITS FALSE NEIGHBOUR: 'it returns false'. Refute it at one input. -/
def frameSealsWrong : ChangeSpec := { name := "frameSeals", fn := fun _ => fun
  | [d1, d2, d3] => { results := [.lit (.bool false)], args := [d1, d2, d3] }
  | _ => none }
def FrameSealsWrongFalsely : Prop := frameSealsRow.holds Try.pinned (OpenSpec.ofChange frameSealsWrong)

/-- 'repertorylaw07.FrameStreams': WHATEVER THE INPUT: true; the input reads as it did. -/
def frameStreamsSpec : ChangeSpec := { name := "frameStreams", fn := fun _ => fun
  | [d] => { results := [.lit (.bool true)], args := [d] }
  | _ => none }
def frameStreamsRow : OpenClaim := { program := "ytammicdgpdnihaa", sum := "352b7ad85d324ff80a69779690bdeba742a967cbcebe5681ee834515fbc1d554", func := "repertory/repertorylaw07.FrameStreams", spec := "frameStreams", apart := false }
def FrameStreamsSaid : Prop := frameStreamsRow.holds Try.pinned (OpenSpec.ofChange frameStreamsSpec)

/-- ITS FALSE NEIGHBOUR: 'it returns false'. Refute it at one input. -/
def frameStreamsWrong : ChangeSpec := { name := "frameStreams", fn := fun _ => fun
  | [d] => { results := [.lit (.bool false)], args := [d] }
  | _ => none }
def FrameStreamsWrongFalsely : Prop := frameStreamsRow.holds Try.pinned (OpenSpec.ofChange frameStreamsWrong)

/- THE SECOND FORM. 'bulk': how many values and letters a reading holds, each counted each time it is reached (what is shared counts as often as it is met; a slice's spare places count too). A statement '..UptoSaid' is the law's where the arguments, and the package variables that the reading takes, are together of bulk at most 1048576: NARROWER than '..Said'. Prove '..Said' where nothing that the law and all that it calls make is longer than what came in: it says more and counts as full. Else prove '..UptoSaid'. A law counts once. -/
mutual
def uptoBulk {H : Type} : DataW H → Nat
  | .lit (.string bytes) => bytes.length + 1
  | .lit _ => 1
  | .nil => 1
  | .ptr d => uptoBulk d + 1
  | .slice elems spare => uptoBulkAll elems + uptoBulkAll spare + 1
  | .agg parts => uptoBulkAll parts + 1
  | .iface _ d => uptoBulk d + 1
  | .map entries => uptoBulkEntries entries + 1
  | .held _ => 1
def uptoBulkAll {H : Type} : List (DataW H) → Nat
  | [] => 0
  | d :: r => uptoBulk d + uptoBulkAll r
def uptoBulkEntries {H : Type} : List (Lit × DataW H) → Nat
  | [] => 0
  | x :: r => uptoBulkEntry x + uptoBulkEntries r
def uptoBulkEntry {H : Type} : Lit × DataW H → Nat
  | (.string bytes, d) => bytes.length + uptoBulk d + 1
  | (_, d) => uptoBulk d + 1
 end
def uptoSmall : (H : Type) → List (DataW H) → Bool := fun _ ds => decide (uptoBulkAll ds ≤ 1048576)
def OpenSpec.upto (s : _root_.Go.ChangeSpec) : _root_.Go.OpenSpec := { _root_.Go.OpenSpec.ofChange s with cond := some uptoSmall }

/-- 'repertorylaw03.CrcSums', WHERE WHAT IT READS IS OF BULK AT MOST 1048576: true; the input reads as it did. -/
def crcSumsUptoRow : OpenClaim := { program := "ytammicdgpdnihaa", sum := "352b7ad85d324ff80a69779690bdeba742a967cbcebe5681ee834515fbc1d554", func := "repertory/repertorylaw03.CrcSums", spec := "crcSums", apart := false, narrowed := true }
def CrcSumsUptoSaid : Prop := crcSumsUptoRow.holds Try.pinned (OpenSpec.upto crcSumsSpec)

/-- 'repertorylaw03.CrcBurst', WHERE WHAT IT READS IS OF BULK AT MOST 1048576: true; the input reads as it did. -/
def crcBurstUptoRow : OpenClaim := { program := "ytammicdgpdnihaa", sum := "352b7ad85d324ff80a69779690bdeba742a967cbcebe5681ee834515fbc1d554", func := "repertory/repertorylaw03.CrcBurst", spec := "crcBurst", apart := false, narrowed := true }
def CrcBurstUptoSaid : Prop := crcBurstUptoRow.holds Try.pinned (OpenSpec.upto crcBurstSpec)

/-- 'repertorylaw03.CrcTails', WHERE WHAT IT READS IS OF BULK AT MOST 1048576: true; the input reads as it did. -/
def crcTailsUptoRow : OpenClaim := { program := "ytammicdgpdnihaa", sum := "352b7ad85d324ff80a69779690bdeba742a967cbcebe5681ee834515fbc1d554", func := "repertory/repertorylaw03.CrcTails", spec := "crcTails", apart := false, narrowed := true }
def CrcTailsUptoSaid : Prop := crcTailsUptoRow.holds Try.pinned (OpenSpec.upto crcTailsSpec)

/-- 'repertorylaw03.CrcSteps', WHERE WHAT IT READS IS OF BULK AT MOST 1048576: true; the input reads as it did. -/
def crcStepsUptoRow : OpenClaim := { program := "ytammicdgpdnihaa", sum := "352b7ad85d324ff80a69779690bdeba742a967cbcebe5681ee834515fbc1d554", func := "repertory/repertorylaw03.CrcSteps", spec := "crcSteps", apart := false, narrowed := true }
def CrcStepsUptoSaid : Prop := crcStepsUptoRow.holds Try.pinned (OpenSpec.upto crcStepsSpec)

/-- 'repertorylaw06.SevenUnpacks', WHERE WHAT IT READS IS OF BULK AT MOST 1048576: true; the input reads as it did. -/
def sevenUnpacksUptoRow : OpenClaim := { program := "ytammicdgpdnihaa", sum := "352b7ad85d324ff80a69779690bdeba742a967cbcebe5681ee834515fbc1d554", func := "repertory/repertorylaw06.SevenUnpacks", spec := "sevenUnpacks", apart := false, narrowed := true }
def SevenUnpacksUptoSaid : Prop := sevenUnpacksUptoRow.holds Try.pinned (OpenSpec.upto sevenUnpacksSpec)

/-- 'repertorylaw06.SevenBurst', WHERE WHAT IT READS IS OF BULK AT MOST 1048576: true; the input reads as it did. -/
def sevenBurstUptoRow : OpenClaim := { program := "ytammicdgpdnihaa", sum := "352b7ad85d324ff80a69779690bdeba742a967cbcebe5681ee834515fbc1d554", func := "repertory/repertorylaw06.SevenBurst", spec := "sevenBurst", apart := false, narrowed := true }
def SevenBurstUptoSaid : Prop := sevenBurstUptoRow.holds Try.pinned (OpenSpec.upto sevenBurstSpec)

/-- 'repertorylaw06.SevenPacks', WHERE WHAT IT READS IS OF BULK AT MOST 1048576: true; the input reads as it did. -/
def sevenPacksUptoRow : OpenClaim := { program := "ytammicdgpdnihaa", sum := "352b7ad85d324ff80a69779690bdeba742a967cbcebe5681ee834515fbc1d554", func := "repertory/repertorylaw06.SevenPacks", spec := "sevenPacks", apart := false, narrowed := true }
def SevenPacksUptoSaid : Prop := sevenPacksUptoRow.holds Try.pinned (OpenSpec.upto sevenPacksSpec)

/-- 'repertorylaw07.FrameOpens', WHERE WHAT IT READS IS OF BULK AT MOST 1048576: true; the input reads as it did. -/
def frameOpensUptoRow : OpenClaim := { program := "ytammicdgpdnihaa", sum := "352b7ad85d324ff80a69779690bdeba742a967cbcebe5681ee834515fbc1d554", func := "repertory/repertorylaw07.FrameOpens", spec := "frameOpens", apart := false, narrowed := true }
def FrameOpensUptoSaid : Prop := frameOpensUptoRow.holds Try.pinned (OpenSpec.upto frameOpensSpec)

/-- 'repertorylaw07.FrameBurst', WHERE WHAT IT READS IS OF BULK AT MOST 1048576: true; the input reads as it did. -/
def frameBurstUptoRow : OpenClaim := { program := "ytammicdgpdnihaa", sum := "352b7ad85d324ff80a69779690bdeba742a967cbcebe5681ee834515fbc1d554", func := "repertory/repertorylaw07.FrameBurst", spec := "frameBurst", apart := false, narrowed := true }
def FrameBurstUptoSaid : Prop := frameBurstUptoRow.holds Try.pinned (OpenSpec.upto frameBurstSpec)

/-- 'repertorylaw07.FrameSeals', WHERE WHAT IT READS IS OF BULK AT MOST 1048576: true; the input reads as it did. -/
def frameSealsUptoRow : OpenClaim := { program := "ytammicdgpdnihaa", sum := "352b7ad85d324ff80a69779690bdeba742a967cbcebe5681ee834515fbc1d554", func := "repertory/repertorylaw07.FrameSeals", spec := "frameSeals", apart := false, narrowed := true }
def FrameSealsUptoSaid : Prop := frameSealsUptoRow.holds Try.pinned (OpenSpec.upto frameSealsSpec)

/-- 'repertorylaw07.FrameStreams', WHERE WHAT IT READS IS OF BULK AT MOST 1048576: true; the input reads as it did. -/
def frameStreamsUptoRow : OpenClaim := { program := "ytammicdgpdnihaa", sum := "352b7ad85d324ff80a69779690bdeba742a967cbcebe5681ee834515fbc1d554", func := "repertory/repertorylaw07.FrameStreams", spec := "frameStreams", apart := false, narrowed := true }
def FrameStreamsUptoSaid : Prop := frameStreamsUptoRow.holds Try.pinned (OpenSpec.upto frameStreamsSpec)

end Rows
end Go.Proofs.Ytammicdgpdnihaa
