/-
  NARROWER THAN 'FOR EVERY INPUT', by the rows' own cells (each row's printed sentence says how): LinkNobody: laid · TallyNobody: laid · GraveNobody: laid · FloodNobody: laid · ReapNobody: laid · RoundNobody: laid · PaceDue: laid · PaceNobody: laid · HeapNobody: laid · HeapFails: laid · HeapPause: laid · HeapOver: laid · OpDoes: laid · OpRuns: laid · OpBare: laid · PauseNobody: laid.
  DERIVED. THE GIVEN ROWS OF THIS SEAT. 16 by the template 'for every input the law returns true; each argument reads behind the call as it read before'; 0 by the template 'total and deterministic' (their statements: YtadhdjldcpkfiaaGreatDoorTotals.lean).
  GIVEN WITH THE SEED: the statements are not yours to turn. If you find one false, say at which input.
  Laid BY PROGRAM, IN A SANDBOX (cutbox-rows.mjs): the forced cells as the released guide's own fill.sh prints them over the translation 7a124a70df58bb35… (all of the seat's roots in one cut). By AI agents, Wed Nov 11 2026. No macro, syntax, notation, axiom, sorry.
-/
import Derived.Test.YtadhdjldcpkfiaaGreatDoorChecked
import GoSem.Claim
import GoSem.ClaimJoined
import GoSem.ClaimMapViews
import Derived.JoinedTies
import Derived.KernelRfl
namespace Go.Proofs.YtadhdjldcpkfiaaGreatDoor
/- THE CELL 'sum', in the pinned program and in every row, IS THE sha256 OF THE DUMP (.gsa) THAT YtadhdjldcpkfiaaGreatDoorProg.lean LOADS. Nothing in Lean hashes anything: it is a label: what it is worth is what the hold of that sum in a sandbox is worth. -/
noncomputable def Tryz.pinned : Pinned := { name := "ytadhdjldcpkfiaagreatdoor", sum := "7a124a70df58bb35c1ec1e37e6a108ce5e8820cec65e07b204e1858fc6454fd2", checked := Tryz.checked }
namespace Rows
def none {H : Type} : Left H := { results := [], args := [] }

/- WHAT THE LISTED PACKAGE-LEVEL VARIABLES READ AS WHEN THE CALL BEGINS. Each datum BY PROGRAM (the guide's laid-datum.mjs) off the statement by which the dump's own 'gosem.cut.vars' lays the variable. In a bare row this is a premise. The card (YtadhdjldcpkfiaaGreatDoorCards.lean) ties it to the program's text. -/
def laid_quitrent_tag_none {H : Type} : DataW H := .agg [.lit (.int .i64 0), .lit (.int .i64 0), .lit (.int .i64 0), .lit (.int .i64 0), .lit (.int .i64 0)]
def laid_quitrent_op_names {H : Type} : DataW H := .agg [.lit (.string []), .lit (.string [97, 108, 108, 111, 99]), .lit (.string [108, 111, 97, 100]), .lit (.string [115, 116, 111, 114, 101]), .lit (.string [114, 101, 97, 100]), .lit (.string [119, 114, 105, 116, 101]), .lit (.string [99, 111, 112, 121]), .lit (.string [100, 114, 111, 112]), .lit (.string [115, 97, 109, 101]), .lit (.string [108, 101, 110]), .lit (.string [116, 105, 99, 107])]

/-- 'quitrentlaw15.LinkNobody': WHATEVER THE INPUT: true; the input reads as it did. -/
def linkNobodySpec : ChangeSpec := { name := "linkNobody", fn := fun _ => fun
  | [d1, d2, d3] => { results := [.lit (.bool true)], args := [d1, d2, d3] }
  | _ => none }
def linkNobodyRow : OpenClaim := { program := "ytadhdjldcpkfiaagreatdoor", sum := "7a124a70df58bb35c1ec1e37e6a108ce5e8820cec65e07b204e1858fc6454fd2", func := "quitrent/quitrentlaw15.LinkNobody", spec := "linkNobody", inPlace := ["sync/atomic.AddUint64"], unfollowed := true, recurses := true, named := ["quitrent/tag.none"], apart := false, laid := [("quitrent/tag.none", laid_quitrent_tag_none)] }
def LinkNobodySaid : Prop := linkNobodyRow.holds Tryz.pinned (OpenSpec.ofChange linkNobodySpec)

/-- ITS FALSE NEIGHBOUR: 'it returns false'. Refute it at one input. -/
def linkNobodyWrong : ChangeSpec := { name := "linkNobody", fn := fun _ => fun
  | [d1, d2, d3] => { results := [.lit (.bool false)], args := [d1, d2, d3] }
  | _ => none }
def LinkNobodyWrongFalsely : Prop := linkNobodyRow.holds Tryz.pinned (OpenSpec.ofChange linkNobodyWrong)

/-- 'quitrentlaw16.TallyNobody': WHATEVER THE INPUT: true; the input reads as it did. -/
def tallyNobodySpec : ChangeSpec := { name := "tallyNobody", fn := fun _ => fun
  | [d1, d2] => { results := [.lit (.bool true)], args := [d1, d2] }
  | _ => none }
def tallyNobodyRow : OpenClaim := { program := "ytadhdjldcpkfiaagreatdoor", sum := "7a124a70df58bb35c1ec1e37e6a108ce5e8820cec65e07b204e1858fc6454fd2", func := "quitrent/quitrentlaw16.TallyNobody", spec := "tallyNobody", inPlace := ["sync/atomic.AddUint64"], unfollowed := true, recurses := true, named := ["quitrent/tag.none"], apart := false, laid := [("quitrent/tag.none", laid_quitrent_tag_none)] }
def TallyNobodySaid : Prop := tallyNobodyRow.holds Tryz.pinned (OpenSpec.ofChange tallyNobodySpec)

/-- ITS FALSE NEIGHBOUR: 'it returns false'. Refute it at one input. -/
def tallyNobodyWrong : ChangeSpec := { name := "tallyNobody", fn := fun _ => fun
  | [d1, d2] => { results := [.lit (.bool false)], args := [d1, d2] }
  | _ => none }
def TallyNobodyWrongFalsely : Prop := tallyNobodyRow.holds Tryz.pinned (OpenSpec.ofChange tallyNobodyWrong)

/-- 'quitrentlaw14.GraveNobody': WHATEVER THE INPUT: true; the input reads as it did. -/
def graveNobodySpec : ChangeSpec := { name := "graveNobody", fn := fun _ => fun
  | [d] => { results := [.lit (.bool true)], args := [d] }
  | _ => none }
def graveNobodyRow : OpenClaim := { program := "ytadhdjldcpkfiaagreatdoor", sum := "7a124a70df58bb35c1ec1e37e6a108ce5e8820cec65e07b204e1858fc6454fd2", func := "quitrent/quitrentlaw14.GraveNobody", spec := "graveNobody", inPlace := ["sync/atomic.AddUint64"], unfollowed := true, recurses := true, named := ["quitrent/tag.none"], apart := false, laid := [("quitrent/tag.none", laid_quitrent_tag_none)] }
def GraveNobodySaid : Prop := graveNobodyRow.holds Tryz.pinned (OpenSpec.ofChange graveNobodySpec)

/-- ITS FALSE NEIGHBOUR: 'it returns false'. Refute it at one input. -/
def graveNobodyWrong : ChangeSpec := { name := "graveNobody", fn := fun _ => fun
  | [d] => { results := [.lit (.bool false)], args := [d] }
  | _ => none }
def GraveNobodyWrongFalsely : Prop := graveNobodyRow.holds Tryz.pinned (OpenSpec.ofChange graveNobodyWrong)

/-- 'quitrentlaw17.FloodNobody': WHATEVER THE INPUT: true; the input reads as it did. -/
def floodNobodySpec : ChangeSpec := { name := "floodNobody", fn := fun _ => fun
  | [d1, d2] => { results := [.lit (.bool true)], args := [d1, d2] }
  | _ => none }
def floodNobodyRow : OpenClaim := { program := "ytadhdjldcpkfiaagreatdoor", sum := "7a124a70df58bb35c1ec1e37e6a108ce5e8820cec65e07b204e1858fc6454fd2", func := "quitrent/quitrentlaw17.FloodNobody", spec := "floodNobody", inPlace := ["sync/atomic.AddUint64"], unfollowed := true, recurses := true, named := ["quitrent/tag.none"], apart := false, laid := [("quitrent/tag.none", laid_quitrent_tag_none)] }
def FloodNobodySaid : Prop := floodNobodyRow.holds Tryz.pinned (OpenSpec.ofChange floodNobodySpec)

/-- ITS FALSE NEIGHBOUR: 'it returns false'. Refute it at one input. -/
def floodNobodyWrong : ChangeSpec := { name := "floodNobody", fn := fun _ => fun
  | [d1, d2] => { results := [.lit (.bool false)], args := [d1, d2] }
  | _ => none }
def FloodNobodyWrongFalsely : Prop := floodNobodyRow.holds Tryz.pinned (OpenSpec.ofChange floodNobodyWrong)

/-- 'quitrentlaw18.ReapNobody': WHATEVER THE INPUT: true; the input reads as it did. -/
def reapNobodySpec : ChangeSpec := { name := "reapNobody", fn := fun _ => fun
  | [d1, d2] => { results := [.lit (.bool true)], args := [d1, d2] }
  | _ => none }
def reapNobodyRow : OpenClaim := { program := "ytadhdjldcpkfiaagreatdoor", sum := "7a124a70df58bb35c1ec1e37e6a108ce5e8820cec65e07b204e1858fc6454fd2", func := "quitrent/quitrentlaw18.ReapNobody", spec := "reapNobody", inPlace := ["sync/atomic.AddUint64"], unfollowed := true, recurses := true, named := ["quitrent/tag.none"], apart := false, laid := [("quitrent/tag.none", laid_quitrent_tag_none)] }
def ReapNobodySaid : Prop := reapNobodyRow.holds Tryz.pinned (OpenSpec.ofChange reapNobodySpec)

/-- ITS FALSE NEIGHBOUR: 'it returns false'. Refute it at one input. -/
def reapNobodyWrong : ChangeSpec := { name := "reapNobody", fn := fun _ => fun
  | [d1, d2] => { results := [.lit (.bool false)], args := [d1, d2] }
  | _ => none }
def ReapNobodyWrongFalsely : Prop := reapNobodyRow.holds Tryz.pinned (OpenSpec.ofChange reapNobodyWrong)

/-- 'quitrentlaw19.RoundNobody': WHATEVER THE INPUT: true; the input reads as it did. -/
def roundNobodySpec : ChangeSpec := { name := "roundNobody", fn := fun _ => fun
  | [d] => { results := [.lit (.bool true)], args := [d] }
  | _ => none }
def roundNobodyRow : OpenClaim := { program := "ytadhdjldcpkfiaagreatdoor", sum := "7a124a70df58bb35c1ec1e37e6a108ce5e8820cec65e07b204e1858fc6454fd2", func := "quitrent/quitrentlaw19.RoundNobody", spec := "roundNobody", inPlace := ["sync/atomic.AddUint64"], unfollowed := true, recurses := true, named := ["quitrent/tag.none"], apart := false, laid := [("quitrent/tag.none", laid_quitrent_tag_none)] }
def RoundNobodySaid : Prop := roundNobodyRow.holds Tryz.pinned (OpenSpec.ofChange roundNobodySpec)

/-- ITS FALSE NEIGHBOUR: 'it returns false'. Refute it at one input. -/
def roundNobodyWrong : ChangeSpec := { name := "roundNobody", fn := fun _ => fun
  | [d] => { results := [.lit (.bool false)], args := [d] }
  | _ => none }
def RoundNobodyWrongFalsely : Prop := roundNobodyRow.holds Tryz.pinned (OpenSpec.ofChange roundNobodyWrong)

/-- 'quitrentlaw20.PaceDue': WHATEVER THE INPUT: true; the input reads as it did. -/
def paceDueSpec : ChangeSpec := { name := "paceDue", fn := fun _ => fun
  | [d1, d2, d3] => { results := [.lit (.bool true)], args := [d1, d2, d3] }
  | _ => none }
def paceDueRow : OpenClaim := { program := "ytadhdjldcpkfiaagreatdoor", sum := "7a124a70df58bb35c1ec1e37e6a108ce5e8820cec65e07b204e1858fc6454fd2", func := "quitrent/quitrentlaw20.PaceDue", spec := "paceDue", inPlace := ["sync/atomic.AddUint64"], unfollowed := true, recurses := true, named := ["quitrent/tag.none"], apart := false, laid := [("quitrent/tag.none", laid_quitrent_tag_none)] }
def PaceDueSaid : Prop := paceDueRow.holds Tryz.pinned (OpenSpec.ofChange paceDueSpec)

/-- ITS FALSE NEIGHBOUR: 'it returns false'. Refute it at one input. -/
def paceDueWrong : ChangeSpec := { name := "paceDue", fn := fun _ => fun
  | [d1, d2, d3] => { results := [.lit (.bool false)], args := [d1, d2, d3] }
  | _ => none }
def PaceDueWrongFalsely : Prop := paceDueRow.holds Tryz.pinned (OpenSpec.ofChange paceDueWrong)

/-- 'quitrentlaw20.PaceNobody': WHATEVER THE INPUT: true; the input reads as it did. -/
def paceNobodySpec : ChangeSpec := { name := "paceNobody", fn := fun _ => fun
  | [d] => { results := [.lit (.bool true)], args := [d] }
  | _ => none }
def paceNobodyRow : OpenClaim := { program := "ytadhdjldcpkfiaagreatdoor", sum := "7a124a70df58bb35c1ec1e37e6a108ce5e8820cec65e07b204e1858fc6454fd2", func := "quitrent/quitrentlaw20.PaceNobody", spec := "paceNobody", inPlace := ["sync/atomic.AddUint64"], unfollowed := true, recurses := true, named := ["quitrent/tag.none"], apart := false, laid := [("quitrent/tag.none", laid_quitrent_tag_none)] }
def PaceNobodySaid : Prop := paceNobodyRow.holds Tryz.pinned (OpenSpec.ofChange paceNobodySpec)

/-- ITS FALSE NEIGHBOUR: 'it returns false'. Refute it at one input. -/
def paceNobodyWrong : ChangeSpec := { name := "paceNobody", fn := fun _ => fun
  | [d] => { results := [.lit (.bool false)], args := [d] }
  | _ => none }
def PaceNobodyWrongFalsely : Prop := paceNobodyRow.holds Tryz.pinned (OpenSpec.ofChange paceNobodyWrong)

/-- 'quitrentlaw21.HeapNobody': WHATEVER THE INPUT: true; the input reads as it did. -/
def heapNobodySpec : ChangeSpec := { name := "heapNobody", fn := fun _ => fun
  | [d1, d2] => { results := [.lit (.bool true)], args := [d1, d2] }
  | _ => none }
def heapNobodyRow : OpenClaim := { program := "ytadhdjldcpkfiaagreatdoor", sum := "7a124a70df58bb35c1ec1e37e6a108ce5e8820cec65e07b204e1858fc6454fd2", func := "quitrent/quitrentlaw21.HeapNobody", spec := "heapNobody", inPlace := ["sync/atomic.AddUint64", "sync/atomic.LoadUint64"], unfollowed := true, recurses := true, named := ["quitrent/tag.none"], apart := false, laid := [("quitrent/tag.none", laid_quitrent_tag_none)] }
def HeapNobodySaid : Prop := heapNobodyRow.holds Tryz.pinned (OpenSpec.ofChange heapNobodySpec)

/-- ITS FALSE NEIGHBOUR: 'it returns false'. Refute it at one input. -/
def heapNobodyWrong : ChangeSpec := { name := "heapNobody", fn := fun _ => fun
  | [d1, d2] => { results := [.lit (.bool false)], args := [d1, d2] }
  | _ => none }
def HeapNobodyWrongFalsely : Prop := heapNobodyRow.holds Tryz.pinned (OpenSpec.ofChange heapNobodyWrong)

/-- 'quitrentlaw21.HeapFails': WHATEVER THE INPUT: true; the input reads as it did. -/
def heapFailsSpec : ChangeSpec := { name := "heapFails", fn := fun _ => fun
  | [d1, d2] => { results := [.lit (.bool true)], args := [d1, d2] }
  | _ => none }
def heapFailsRow : OpenClaim := { program := "ytadhdjldcpkfiaagreatdoor", sum := "7a124a70df58bb35c1ec1e37e6a108ce5e8820cec65e07b204e1858fc6454fd2", func := "quitrent/quitrentlaw21.HeapFails", spec := "heapFails", inPlace := ["sync/atomic.AddUint64"], unfollowed := true, recurses := true, named := ["quitrent/tag.none"], apart := false, laid := [("quitrent/tag.none", laid_quitrent_tag_none)] }
def HeapFailsSaid : Prop := heapFailsRow.holds Tryz.pinned (OpenSpec.ofChange heapFailsSpec)

/-- ITS FALSE NEIGHBOUR: 'it returns false'. Refute it at one input. -/
def heapFailsWrong : ChangeSpec := { name := "heapFails", fn := fun _ => fun
  | [d1, d2] => { results := [.lit (.bool false)], args := [d1, d2] }
  | _ => none }
def HeapFailsWrongFalsely : Prop := heapFailsRow.holds Tryz.pinned (OpenSpec.ofChange heapFailsWrong)

/-- 'quitrentlaw21.HeapPause': WHATEVER THE INPUT: true; the input reads as it did. -/
def heapPauseSpec : ChangeSpec := { name := "heapPause", fn := fun _ => fun
  | [d1, d2] => { results := [.lit (.bool true)], args := [d1, d2] }
  | _ => none }
def heapPauseRow : OpenClaim := { program := "ytadhdjldcpkfiaagreatdoor", sum := "7a124a70df58bb35c1ec1e37e6a108ce5e8820cec65e07b204e1858fc6454fd2", func := "quitrent/quitrentlaw21.HeapPause", spec := "heapPause", inPlace := ["sync/atomic.AddUint64", "sync/atomic.LoadUint64"], unfollowed := true, recurses := true, named := ["quitrent/tag.none"], apart := false, laid := [("quitrent/tag.none", laid_quitrent_tag_none)] }
def HeapPauseSaid : Prop := heapPauseRow.holds Tryz.pinned (OpenSpec.ofChange heapPauseSpec)

/-- ITS FALSE NEIGHBOUR: 'it returns false'. Refute it at one input. -/
def heapPauseWrong : ChangeSpec := { name := "heapPause", fn := fun _ => fun
  | [d1, d2] => { results := [.lit (.bool false)], args := [d1, d2] }
  | _ => none }
def HeapPauseWrongFalsely : Prop := heapPauseRow.holds Tryz.pinned (OpenSpec.ofChange heapPauseWrong)

/-- 'quitrentlaw21.HeapOver': WHATEVER THE INPUT: true; the input reads as it did. -/
def heapOverSpec : ChangeSpec := { name := "heapOver", fn := fun _ => fun
  | [d1, d2, d3] => { results := [.lit (.bool true)], args := [d1, d2, d3] }
  | _ => none }
def heapOverRow : OpenClaim := { program := "ytadhdjldcpkfiaagreatdoor", sum := "7a124a70df58bb35c1ec1e37e6a108ce5e8820cec65e07b204e1858fc6454fd2", func := "quitrent/quitrentlaw21.HeapOver", spec := "heapOver", inPlace := ["sync/atomic.AddUint64", "sync/atomic.LoadUint64"], unfollowed := true, recurses := true, named := ["quitrent/tag.none"], apart := false, laid := [("quitrent/tag.none", laid_quitrent_tag_none)] }
def HeapOverSaid : Prop := heapOverRow.holds Tryz.pinned (OpenSpec.ofChange heapOverSpec)

/-- ITS FALSE NEIGHBOUR: 'it returns false'. Refute it at one input. -/
def heapOverWrong : ChangeSpec := { name := "heapOver", fn := fun _ => fun
  | [d1, d2, d3] => { results := [.lit (.bool false)], args := [d1, d2, d3] }
  | _ => none }
def HeapOverWrongFalsely : Prop := heapOverRow.holds Tryz.pinned (OpenSpec.ofChange heapOverWrong)

/-- 'quitrentlaw22.OpDoes': WHATEVER THE INPUT: true; the input reads as it did. -/
def opDoesSpec : ChangeSpec := { name := "opDoes", fn := fun _ => fun
  | [d1, d2, d3] => { results := [.lit (.bool true)], args := [d1, d2, d3] }
  | _ => none }
def opDoesRow : OpenClaim := { program := "ytadhdjldcpkfiaagreatdoor", sum := "7a124a70df58bb35c1ec1e37e6a108ce5e8820cec65e07b204e1858fc6454fd2", func := "quitrent/quitrentlaw22.OpDoes", spec := "opDoes", inPlace := ["sync/atomic.AddUint64"], unfollowed := true, recurses := true, named := ["quitrent/op.names", "quitrent/tag.none"], apart := false, laid := [("quitrent/tag.none", laid_quitrent_tag_none), ("quitrent/op.names", laid_quitrent_op_names)] }
def OpDoesSaid : Prop := opDoesRow.holds Tryz.pinned (OpenSpec.ofChange opDoesSpec)

/-- ITS FALSE NEIGHBOUR: 'it returns false'. Refute it at one input. -/
def opDoesWrong : ChangeSpec := { name := "opDoes", fn := fun _ => fun
  | [d1, d2, d3] => { results := [.lit (.bool false)], args := [d1, d2, d3] }
  | _ => none }
def OpDoesWrongFalsely : Prop := opDoesRow.holds Tryz.pinned (OpenSpec.ofChange opDoesWrong)

/-- 'quitrentlaw22.OpRuns': WHATEVER THE INPUT: true; the input reads as it did. -/
def opRunsSpec : ChangeSpec := { name := "opRuns", fn := fun _ => fun
  | [d1, d2, d3] => { results := [.lit (.bool true)], args := [d1, d2, d3] }
  | _ => none }
def opRunsRow : OpenClaim := { program := "ytadhdjldcpkfiaagreatdoor", sum := "7a124a70df58bb35c1ec1e37e6a108ce5e8820cec65e07b204e1858fc6454fd2", func := "quitrent/quitrentlaw22.OpRuns", spec := "opRuns", inPlace := ["sync/atomic.AddUint64", "sync/atomic.LoadUint64"], unfollowed := true, recurses := true, named := ["quitrent/op.names", "quitrent/tag.none"], apart := false, laid := [("quitrent/tag.none", laid_quitrent_tag_none), ("quitrent/op.names", laid_quitrent_op_names)] }
def OpRunsSaid : Prop := opRunsRow.holds Tryz.pinned (OpenSpec.ofChange opRunsSpec)

/-- ITS FALSE NEIGHBOUR: 'it returns false'. Refute it at one input. -/
def opRunsWrong : ChangeSpec := { name := "opRuns", fn := fun _ => fun
  | [d1, d2, d3] => { results := [.lit (.bool false)], args := [d1, d2, d3] }
  | _ => none }
def OpRunsWrongFalsely : Prop := opRunsRow.holds Tryz.pinned (OpenSpec.ofChange opRunsWrong)

/-- 'quitrentlaw22.OpBare': WHATEVER THE INPUT: true; the input reads as it did. -/
def opBareSpec : ChangeSpec := { name := "opBare", fn := fun _ => fun
  | [d1, d2] => { results := [.lit (.bool true)], args := [d1, d2] }
  | _ => none }
def opBareRow : OpenClaim := { program := "ytadhdjldcpkfiaagreatdoor", sum := "7a124a70df58bb35c1ec1e37e6a108ce5e8820cec65e07b204e1858fc6454fd2", func := "quitrent/quitrentlaw22.OpBare", spec := "opBare", inPlace := ["sync/atomic.AddUint64"], unfollowed := true, recurses := true, named := ["quitrent/op.names", "quitrent/tag.none"], apart := false, laid := [("quitrent/tag.none", laid_quitrent_tag_none), ("quitrent/op.names", laid_quitrent_op_names)] }
def OpBareSaid : Prop := opBareRow.holds Tryz.pinned (OpenSpec.ofChange opBareSpec)

/-- ITS FALSE NEIGHBOUR: 'it returns false'. Refute it at one input. -/
def opBareWrong : ChangeSpec := { name := "opBare", fn := fun _ => fun
  | [d1, d2] => { results := [.lit (.bool false)], args := [d1, d2] }
  | _ => none }
def OpBareWrongFalsely : Prop := opBareRow.holds Tryz.pinned (OpenSpec.ofChange opBareWrong)

/-- 'quitrentlaw27.PauseNobody': WHATEVER THE INPUT: true; the input reads as it did. -/
def pauseNobodySpec : ChangeSpec := { name := "pauseNobody", fn := fun _ => fun
  | [d1, d2] => { results := [.lit (.bool true)], args := [d1, d2] }
  | _ => none }
def pauseNobodyRow : OpenClaim := { program := "ytadhdjldcpkfiaagreatdoor", sum := "7a124a70df58bb35c1ec1e37e6a108ce5e8820cec65e07b204e1858fc6454fd2", func := "quitrent/quitrentlaw27.PauseNobody", spec := "pauseNobody", inPlace := ["sync/atomic.LoadUint64", "sync/atomic.AddUint64"], unfollowed := true, recurses := true, named := ["quitrent/tag.none", "quitrent/op.names"], apart := false, laid := [("quitrent/tag.none", laid_quitrent_tag_none), ("quitrent/op.names", laid_quitrent_op_names)] }
def PauseNobodySaid : Prop := pauseNobodyRow.holds Tryz.pinned (OpenSpec.ofChange pauseNobodySpec)

/-- ITS FALSE NEIGHBOUR: 'it returns false'. Refute it at one input. -/
def pauseNobodyWrong : ChangeSpec := { name := "pauseNobody", fn := fun _ => fun
  | [d1, d2] => { results := [.lit (.bool false)], args := [d1, d2] }
  | _ => none }
def PauseNobodyWrongFalsely : Prop := pauseNobodyRow.holds Tryz.pinned (OpenSpec.ofChange pauseNobodyWrong)

/- THE SECOND FORM. 'bulk': how many values and letters a reading holds, each counted each time it is reached (what is shared counts as often as it is met; a slice's spare places count too). A statement '..UptoSaid' is the law's where the arguments, and the package variables that the reading takes, are together of bulk at most 1048576: NARROWER than '..Said'. Prove '..Said' where nothing that the law and all that it calls make is longer than what came in: it says more and counts as full. Else prove '..UptoSaid'. A law counts once. -/
mutual
def uptoBulk {H : Type} : DataW H → Nat
  | .lit (.string bytes) => bytes.length + 1
  | .lit _ => 1
  | .nil => 1
  | .ptr d => uptoBulk d + 1
  | .slice elems spare => uptoBulkAll elems + uptoBulkAll spare + 1
  | .agg parts => uptoBulkAll parts + 1
  | .iface _ d => uptoBulk d + 1
  | .map entries => uptoBulkEntries entries + 1
  | .held _ => 1
def uptoBulkAll {H : Type} : List (DataW H) → Nat
  | [] => 0
  | d :: r => uptoBulk d + uptoBulkAll r
def uptoBulkEntries {H : Type} : List (Lit × DataW H) → Nat
  | [] => 0
  | x :: r => uptoBulkEntry x + uptoBulkEntries r
def uptoBulkEntry {H : Type} : Lit × DataW H → Nat
  | (.string bytes, d) => bytes.length + uptoBulk d + 1
  | (_, d) => uptoBulk d + 1
 end
def uptoSmall : (H : Type) → List (DataW H) → Bool := fun _ ds => decide (uptoBulkAll ds ≤ 1048576)
def OpenSpec.upto (s : _root_.Go.ChangeSpec) : _root_.Go.OpenSpec := { _root_.Go.OpenSpec.ofChange s with cond := some uptoSmall }

/-- 'quitrentlaw15.LinkNobody', WHERE WHAT IT READS IS OF BULK AT MOST 1048576: true; the input reads as it did. -/
def linkNobodyUptoRow : OpenClaim := { program := "ytadhdjldcpkfiaagreatdoor", sum := "7a124a70df58bb35c1ec1e37e6a108ce5e8820cec65e07b204e1858fc6454fd2", func := "quitrent/quitrentlaw15.LinkNobody", spec := "linkNobody", inPlace := ["sync/atomic.AddUint64"], unfollowed := true, recurses := true, named := ["quitrent/tag.none"], apart := false, laid := [("quitrent/tag.none", laid_quitrent_tag_none)], narrowed := true }
def LinkNobodyUptoSaid : Prop := linkNobodyUptoRow.holds Tryz.pinned (OpenSpec.upto linkNobodySpec)

/-- 'quitrentlaw16.TallyNobody', WHERE WHAT IT READS IS OF BULK AT MOST 1048576: true; the input reads as it did. -/
def tallyNobodyUptoRow : OpenClaim := { program := "ytadhdjldcpkfiaagreatdoor", sum := "7a124a70df58bb35c1ec1e37e6a108ce5e8820cec65e07b204e1858fc6454fd2", func := "quitrent/quitrentlaw16.TallyNobody", spec := "tallyNobody", inPlace := ["sync/atomic.AddUint64"], unfollowed := true, recurses := true, named := ["quitrent/tag.none"], apart := false, laid := [("quitrent/tag.none", laid_quitrent_tag_none)], narrowed := true }
def TallyNobodyUptoSaid : Prop := tallyNobodyUptoRow.holds Tryz.pinned (OpenSpec.upto tallyNobodySpec)

/-- 'quitrentlaw14.GraveNobody', WHERE WHAT IT READS IS OF BULK AT MOST 1048576: true; the input reads as it did. -/
def graveNobodyUptoRow : OpenClaim := { program := "ytadhdjldcpkfiaagreatdoor", sum := "7a124a70df58bb35c1ec1e37e6a108ce5e8820cec65e07b204e1858fc6454fd2", func := "quitrent/quitrentlaw14.GraveNobody", spec := "graveNobody", inPlace := ["sync/atomic.AddUint64"], unfollowed := true, recurses := true, named := ["quitrent/tag.none"], apart := false, laid := [("quitrent/tag.none", laid_quitrent_tag_none)], narrowed := true }
def GraveNobodyUptoSaid : Prop := graveNobodyUptoRow.holds Tryz.pinned (OpenSpec.upto graveNobodySpec)

/-- 'quitrentlaw17.FloodNobody', WHERE WHAT IT READS IS OF BULK AT MOST 1048576: true; the input reads as it did. -/
def floodNobodyUptoRow : OpenClaim := { program := "ytadhdjldcpkfiaagreatdoor", sum := "7a124a70df58bb35c1ec1e37e6a108ce5e8820cec65e07b204e1858fc6454fd2", func := "quitrent/quitrentlaw17.FloodNobody", spec := "floodNobody", inPlace := ["sync/atomic.AddUint64"], unfollowed := true, recurses := true, named := ["quitrent/tag.none"], apart := false, laid := [("quitrent/tag.none", laid_quitrent_tag_none)], narrowed := true }
def FloodNobodyUptoSaid : Prop := floodNobodyUptoRow.holds Tryz.pinned (OpenSpec.upto floodNobodySpec)

/-- 'quitrentlaw18.ReapNobody', WHERE WHAT IT READS IS OF BULK AT MOST 1048576: true; the input reads as it did. -/
def reapNobodyUptoRow : OpenClaim := { program := "ytadhdjldcpkfiaagreatdoor", sum := "7a124a70df58bb35c1ec1e37e6a108ce5e8820cec65e07b204e1858fc6454fd2", func := "quitrent/quitrentlaw18.ReapNobody", spec := "reapNobody", inPlace := ["sync/atomic.AddUint64"], unfollowed := true, recurses := true, named := ["quitrent/tag.none"], apart := false, laid := [("quitrent/tag.none", laid_quitrent_tag_none)], narrowed := true }
def ReapNobodyUptoSaid : Prop := reapNobodyUptoRow.holds Tryz.pinned (OpenSpec.upto reapNobodySpec)

/-- 'quitrentlaw19.RoundNobody', WHERE WHAT IT READS IS OF BULK AT MOST 1048576: true; the input reads as it did. -/
def roundNobodyUptoRow : OpenClaim := { program := "ytadhdjldcpkfiaagreatdoor", sum := "7a124a70df58bb35c1ec1e37e6a108ce5e8820cec65e07b204e1858fc6454fd2", func := "quitrent/quitrentlaw19.RoundNobody", spec := "roundNobody", inPlace := ["sync/atomic.AddUint64"], unfollowed := true, recurses := true, named := ["quitrent/tag.none"], apart := false, laid := [("quitrent/tag.none", laid_quitrent_tag_none)], narrowed := true }
def RoundNobodyUptoSaid : Prop := roundNobodyUptoRow.holds Tryz.pinned (OpenSpec.upto roundNobodySpec)

/-- 'quitrentlaw20.PaceDue', WHERE WHAT IT READS IS OF BULK AT MOST 1048576: true; the input reads as it did. -/
def paceDueUptoRow : OpenClaim := { program := "ytadhdjldcpkfiaagreatdoor", sum := "7a124a70df58bb35c1ec1e37e6a108ce5e8820cec65e07b204e1858fc6454fd2", func := "quitrent/quitrentlaw20.PaceDue", spec := "paceDue", inPlace := ["sync/atomic.AddUint64"], unfollowed := true, recurses := true, named := ["quitrent/tag.none"], apart := false, laid := [("quitrent/tag.none", laid_quitrent_tag_none)], narrowed := true }
def PaceDueUptoSaid : Prop := paceDueUptoRow.holds Tryz.pinned (OpenSpec.upto paceDueSpec)

/-- 'quitrentlaw20.PaceNobody', WHERE WHAT IT READS IS OF BULK AT MOST 1048576: true; the input reads as it did. -/
def paceNobodyUptoRow : OpenClaim := { program := "ytadhdjldcpkfiaagreatdoor", sum := "7a124a70df58bb35c1ec1e37e6a108ce5e8820cec65e07b204e1858fc6454fd2", func := "quitrent/quitrentlaw20.PaceNobody", spec := "paceNobody", inPlace := ["sync/atomic.AddUint64"], unfollowed := true, recurses := true, named := ["quitrent/tag.none"], apart := false, laid := [("quitrent/tag.none", laid_quitrent_tag_none)], narrowed := true }
def PaceNobodyUptoSaid : Prop := paceNobodyUptoRow.holds Tryz.pinned (OpenSpec.upto paceNobodySpec)

/-- 'quitrentlaw21.HeapNobody', WHERE WHAT IT READS IS OF BULK AT MOST 1048576: true; the input reads as it did. -/
def heapNobodyUptoRow : OpenClaim := { program := "ytadhdjldcpkfiaagreatdoor", sum := "7a124a70df58bb35c1ec1e37e6a108ce5e8820cec65e07b204e1858fc6454fd2", func := "quitrent/quitrentlaw21.HeapNobody", spec := "heapNobody", inPlace := ["sync/atomic.AddUint64", "sync/atomic.LoadUint64"], unfollowed := true, recurses := true, named := ["quitrent/tag.none"], apart := false, laid := [("quitrent/tag.none", laid_quitrent_tag_none)], narrowed := true }
def HeapNobodyUptoSaid : Prop := heapNobodyUptoRow.holds Tryz.pinned (OpenSpec.upto heapNobodySpec)

/-- 'quitrentlaw21.HeapFails', WHERE WHAT IT READS IS OF BULK AT MOST 1048576: true; the input reads as it did. -/
def heapFailsUptoRow : OpenClaim := { program := "ytadhdjldcpkfiaagreatdoor", sum := "7a124a70df58bb35c1ec1e37e6a108ce5e8820cec65e07b204e1858fc6454fd2", func := "quitrent/quitrentlaw21.HeapFails", spec := "heapFails", inPlace := ["sync/atomic.AddUint64"], unfollowed := true, recurses := true, named := ["quitrent/tag.none"], apart := false, laid := [("quitrent/tag.none", laid_quitrent_tag_none)], narrowed := true }
def HeapFailsUptoSaid : Prop := heapFailsUptoRow.holds Tryz.pinned (OpenSpec.upto heapFailsSpec)

/-- 'quitrentlaw21.HeapPause', WHERE WHAT IT READS IS OF BULK AT MOST 1048576: true; the input reads as it did. -/
def heapPauseUptoRow : OpenClaim := { program := "ytadhdjldcpkfiaagreatdoor", sum := "7a124a70df58bb35c1ec1e37e6a108ce5e8820cec65e07b204e1858fc6454fd2", func := "quitrent/quitrentlaw21.HeapPause", spec := "heapPause", inPlace := ["sync/atomic.AddUint64", "sync/atomic.LoadUint64"], unfollowed := true, recurses := true, named := ["quitrent/tag.none"], apart := false, laid := [("quitrent/tag.none", laid_quitrent_tag_none)], narrowed := true }
def HeapPauseUptoSaid : Prop := heapPauseUptoRow.holds Tryz.pinned (OpenSpec.upto heapPauseSpec)

/-- 'quitrentlaw21.HeapOver', WHERE WHAT IT READS IS OF BULK AT MOST 1048576: true; the input reads as it did. -/
def heapOverUptoRow : OpenClaim := { program := "ytadhdjldcpkfiaagreatdoor", sum := "7a124a70df58bb35c1ec1e37e6a108ce5e8820cec65e07b204e1858fc6454fd2", func := "quitrent/quitrentlaw21.HeapOver", spec := "heapOver", inPlace := ["sync/atomic.AddUint64", "sync/atomic.LoadUint64"], unfollowed := true, recurses := true, named := ["quitrent/tag.none"], apart := false, laid := [("quitrent/tag.none", laid_quitrent_tag_none)], narrowed := true }
def HeapOverUptoSaid : Prop := heapOverUptoRow.holds Tryz.pinned (OpenSpec.upto heapOverSpec)

/-- 'quitrentlaw22.OpDoes', WHERE WHAT IT READS IS OF BULK AT MOST 1048576: true; the input reads as it did. -/
def opDoesUptoRow : OpenClaim := { program := "ytadhdjldcpkfiaagreatdoor", sum := "7a124a70df58bb35c1ec1e37e6a108ce5e8820cec65e07b204e1858fc6454fd2", func := "quitrent/quitrentlaw22.OpDoes", spec := "opDoes", inPlace := ["sync/atomic.AddUint64"], unfollowed := true, recurses := true, named := ["quitrent/op.names", "quitrent/tag.none"], apart := false, laid := [("quitrent/tag.none", laid_quitrent_tag_none), ("quitrent/op.names", laid_quitrent_op_names)], narrowed := true }
def OpDoesUptoSaid : Prop := opDoesUptoRow.holds Tryz.pinned (OpenSpec.upto opDoesSpec)

/-- 'quitrentlaw22.OpRuns', WHERE WHAT IT READS IS OF BULK AT MOST 1048576: true; the input reads as it did. -/
def opRunsUptoRow : OpenClaim := { program := "ytadhdjldcpkfiaagreatdoor", sum := "7a124a70df58bb35c1ec1e37e6a108ce5e8820cec65e07b204e1858fc6454fd2", func := "quitrent/quitrentlaw22.OpRuns", spec := "opRuns", inPlace := ["sync/atomic.AddUint64", "sync/atomic.LoadUint64"], unfollowed := true, recurses := true, named := ["quitrent/op.names", "quitrent/tag.none"], apart := false, laid := [("quitrent/tag.none", laid_quitrent_tag_none), ("quitrent/op.names", laid_quitrent_op_names)], narrowed := true }
def OpRunsUptoSaid : Prop := opRunsUptoRow.holds Tryz.pinned (OpenSpec.upto opRunsSpec)

/-- 'quitrentlaw22.OpBare', WHERE WHAT IT READS IS OF BULK AT MOST 1048576: true; the input reads as it did. -/
def opBareUptoRow : OpenClaim := { program := "ytadhdjldcpkfiaagreatdoor", sum := "7a124a70df58bb35c1ec1e37e6a108ce5e8820cec65e07b204e1858fc6454fd2", func := "quitrent/quitrentlaw22.OpBare", spec := "opBare", inPlace := ["sync/atomic.AddUint64"], unfollowed := true, recurses := true, named := ["quitrent/op.names", "quitrent/tag.none"], apart := false, laid := [("quitrent/tag.none", laid_quitrent_tag_none), ("quitrent/op.names", laid_quitrent_op_names)], narrowed := true }
def OpBareUptoSaid : Prop := opBareUptoRow.holds Tryz.pinned (OpenSpec.upto opBareSpec)

/-- 'quitrentlaw27.PauseNobody', WHERE WHAT IT READS IS OF BULK AT MOST 1048576: true; the input reads as it did. -/
def pauseNobodyUptoRow : OpenClaim := { program := "ytadhdjldcpkfiaagreatdoor", sum := "7a124a70df58bb35c1ec1e37e6a108ce5e8820cec65e07b204e1858fc6454fd2", func := "quitrent/quitrentlaw27.PauseNobody", spec := "pauseNobody", inPlace := ["sync/atomic.LoadUint64", "sync/atomic.AddUint64"], unfollowed := true, recurses := true, named := ["quitrent/tag.none", "quitrent/op.names"], apart := false, laid := [("quitrent/tag.none", laid_quitrent_tag_none), ("quitrent/op.names", laid_quitrent_op_names)], narrowed := true }
def PauseNobodyUptoSaid : Prop := pauseNobodyUptoRow.holds Tryz.pinned (OpenSpec.upto pauseNobodySpec)

end Rows
end Go.Proofs.YtadhdjldcpkfiaaGreatDoor
