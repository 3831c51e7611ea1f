/-
  NARROWER THAN 'FOR EVERY INPUT', by the rows' own cells (each row's printed sentence says how): FrameSteps: laid · CheckTells: laid · CheckLeast: laid · MapsSound: laid · MapsNeeds: laid · MapsEnough: laid · MapsWanting: laid.
  DERIVED. THE GIVEN ROWS OF THIS SEAT. 7 by the template 'for every input the law returns true; each argument reads behind the call as it read before'; 0 by the template 'total and deterministic' (their statements: YtlmfmioljeppfaaGreatDoorTotals.lean).
  GIVEN WITH THE SEED: the statements are not yours to turn. If you find one false, say at which input.
  Laid BY PROGRAM, IN A SANDBOX (cutbox-rows.mjs): the forced cells as the released guide's own fill.sh prints them over the translation a0c765f8de287c28… (all of the seat's roots in one cut). By AI agents, Wed Nov 11 2026. No macro, syntax, notation, axiom, sorry.
-/
import Derived.Test.YtlmfmioljeppfaaGreatDoorChecked
import GoSem.PinnedTables
import GoSem.Claim
import GoSem.ClaimJoined
import GoSem.ClaimMapViews
import Derived.JoinedTies
import Derived.KernelRfl
namespace Go.Proofs.YtlmfmioljeppfaaGreatDoor
/- THE CELL 'sum', in the pinned program and in every row, IS THE sha256 OF THE DUMP (.gsa) THAT YtlmfmioljeppfaaGreatDoorProg.lean LOADS. Nothing in Lean hashes anything: it is a label: what it is worth is what the hold of that sum in a sandbox is worth. -/
noncomputable def Tryz.pinned : Pinned := { name := "ytlmfmioljeppfaagreatdoor", sum := "a0c765f8de287c281669f1e4a6a0d38834bcc540bf7b273d16ccfedfd2645701", checked := Tryz.checked }
namespace Rows
def none {H : Type} : Left H := { results := [], args := [] }

/- WHAT THE LISTED PACKAGE-LEVEL VARIABLES READ AS WHEN THE CALL BEGINS. Each datum BY PROGRAM (the guide's laid-datum.mjs) off the statement by which the dump's own 'gosem.cut.vars' lays the variable. In a bare row this is a premise. The card (YtlmfmioljeppfaaGreatDoorCards.lean) ties it to the program's text. -/
def laid_unicode_utf8_acceptRanges {H : Type} : DataW H := .agg [.agg [.lit (.int .u8 128), .lit (.int .u8 191)], .agg [.lit (.int .u8 160), .lit (.int .u8 191)], .agg [.lit (.int .u8 128), .lit (.int .u8 159)], .agg [.lit (.int .u8 144), .lit (.int .u8 191)], .agg [.lit (.int .u8 128), .lit (.int .u8 143)], .agg [.lit (.int .u8 0), .lit (.int .u8 0)], .agg [.lit (.int .u8 0), .lit (.int .u8 0)], .agg [.lit (.int .u8 0), .lit (.int .u8 0)], .agg [.lit (.int .u8 0), .lit (.int .u8 0)], .agg [.lit (.int .u8 0), .lit (.int .u8 0)], .agg [.lit (.int .u8 0), .lit (.int .u8 0)], .agg [.lit (.int .u8 0), .lit (.int .u8 0)], .agg [.lit (.int .u8 0), .lit (.int .u8 0)], .agg [.lit (.int .u8 0), .lit (.int .u8 0)], .agg [.lit (.int .u8 0), .lit (.int .u8 0)], .agg [.lit (.int .u8 0), .lit (.int .u8 0)]]
def laid_coffeehouse_ins_forms {H : Type} : DataW H := .agg [.agg [.lit (.string []), .lit (.string [])], .agg [.lit (.string [110, 111, 112]), .lit (.string [])], .agg [.lit (.string [112, 117, 115, 104]), .lit (.string [65, 84])], .agg [.lit (.string [110, 117, 108, 108]), .lit (.string [])], .agg [.lit (.string [108, 111, 97, 100]), .lit (.string [65])], .agg [.lit (.string [115, 116, 111, 114, 101]), .lit (.string [65])], .agg [.lit (.string [112, 111, 112]), .lit (.string [])], .agg [.lit (.string [100, 117, 112]), .lit (.string [])], .agg [.lit (.string [115, 119, 97, 112]), .lit (.string [])], .agg [.lit (.string [109, 97, 116, 104]), .lit (.string [65, 84])], .agg [.lit (.string [99, 111, 110, 118]), .lit (.string [84])], .agg [.lit (.string [111, 114, 100, 101, 114]), .lit (.string [])], .agg [.lit (.string [105, 102]), .lit (.string [65, 66])], .agg [.lit (.string [105, 102, 110, 117, 108, 108]), .lit (.string [65])], .agg [.lit (.string [103, 111, 116, 111]), .lit (.string [65])], .agg [.lit (.string [110, 101, 119]), .lit (.string [67])], .agg [.lit (.string [103, 101, 116]), .lit (.string [67, 78])], .agg [.lit (.string [112, 117, 116]), .lit (.string [67, 78])], .agg [.lit (.string [110, 101, 119, 97, 114, 114, 97, 121]), .lit (.string [84])], .agg [.lit (.string [108, 101, 110, 103, 116, 104]), .lit (.string [])], .agg [.lit (.string [97, 108, 111, 97, 100]), .lit (.string [84])], .agg [.lit (.string [97, 115, 116, 111, 114, 101]), .lit (.string [84])], .agg [.lit (.string [99, 97, 115, 116]), .lit (.string [84])], .agg [.lit (.string [105, 115]), .lit (.string [84])], .agg [.lit (.string [99, 97, 108, 108]), .lit (.string [84, 67, 78])], .agg [.lit (.string [99, 97, 108, 108, 115]), .lit (.string [84, 67, 78])], .agg [.lit (.string [114, 101, 116, 117, 114, 110]), .lit (.string [])], .agg [.lit (.string [103, 105, 118, 101]), .lit (.string [])], .agg [.lit (.string [116, 104, 114, 111, 119]), .lit (.string [])]]
/-- One of Go's own tables, pinned by name: the form's constant. -/
def laid_unicode_utf8_first : DataW Unit := Go.Pinned.utf8First

/-- 'coffeehouselaw3.FrameSteps': WHATEVER THE INPUT: true; the input reads as it did. -/
def frameStepsSpec : ChangeSpec := { name := "frameSteps", fn := fun _ => fun
  | [d1, d2, d3, d4, d5] => { results := [.lit (.bool true)], args := [d1, d2, d3, d4, d5] }
  | _ => none }
def frameStepsRow : OpenClaim := { program := "ytlmfmioljeppfaagreatdoor", sum := "a0c765f8de287c281669f1e4a6a0d38834bcc540bf7b273d16ccfedfd2645701", func := "coffeehouse/coffeehouselaw3.FrameSteps", spec := "frameSteps", inPlace := ["internal/bytealg.IndexByteString", "internal/bytealg.IndexString"], unfollowed := true, recurses := true, named := ["unicode/utf8.first", "unicode/utf8.acceptRanges", "coffeehouse/ins.forms", "internal/bytealg.MaxLen"], apart := false, laid := [("unicode/utf8.acceptRanges", laid_unicode_utf8_acceptRanges), ("coffeehouse/ins.forms", laid_coffeehouse_ins_forms), ("unicode/utf8.first", laid_unicode_utf8_first)] }
def FrameStepsSaid : Prop := frameStepsRow.holds Tryz.pinned (OpenSpec.ofChange frameStepsSpec)

/-- ITS FALSE NEIGHBOUR: 'it returns false'. Refute it at one input. -/
def frameStepsWrong : ChangeSpec := { name := "frameSteps", fn := fun _ => fun
  | [d1, d2, d3, d4, d5] => { results := [.lit (.bool false)], args := [d1, d2, d3, d4, d5] }
  | _ => none }
def FrameStepsWrongFalsely : Prop := frameStepsRow.holds Tryz.pinned (OpenSpec.ofChange frameStepsWrong)

/-- 'coffeehouselaw3.CheckTells': WHATEVER THE INPUT: true; the input reads as it did. -/
def checkTellsSpec : ChangeSpec := { name := "checkTells", fn := fun _ => fun
  | [d1, d2, d3] => { results := [.lit (.bool true)], args := [d1, d2, d3] }
  | _ => none }
def checkTellsRow : OpenClaim := { program := "ytlmfmioljeppfaagreatdoor", sum := "a0c765f8de287c281669f1e4a6a0d38834bcc540bf7b273d16ccfedfd2645701", func := "coffeehouse/coffeehouselaw3.CheckTells", spec := "checkTells", inPlace := ["internal/bytealg.IndexByteString", "internal/bytealg.IndexString"], unfollowed := true, recurses := true, named := ["unicode/utf8.first", "unicode/utf8.acceptRanges", "coffeehouse/ins.forms", "internal/bytealg.MaxLen"], apart := false, laid := [("unicode/utf8.acceptRanges", laid_unicode_utf8_acceptRanges), ("coffeehouse/ins.forms", laid_coffeehouse_ins_forms), ("unicode/utf8.first", laid_unicode_utf8_first)] }
def CheckTellsSaid : Prop := checkTellsRow.holds Tryz.pinned (OpenSpec.ofChange checkTellsSpec)

/-- ITS FALSE NEIGHBOUR: 'it returns false'. Refute it at one input. -/
def checkTellsWrong : ChangeSpec := { name := "checkTells", fn := fun _ => fun
  | [d1, d2, d3] => { results := [.lit (.bool false)], args := [d1, d2, d3] }
  | _ => none }
def CheckTellsWrongFalsely : Prop := checkTellsRow.holds Tryz.pinned (OpenSpec.ofChange checkTellsWrong)

/-- 'coffeehouselaw3.CheckLeast': WHATEVER THE INPUT: true; the input reads as it did. -/
def checkLeastSpec : ChangeSpec := { name := "checkLeast", fn := fun _ => fun
  | [d1, d2, d3] => { results := [.lit (.bool true)], args := [d1, d2, d3] }
  | _ => none }
def checkLeastRow : OpenClaim := { program := "ytlmfmioljeppfaagreatdoor", sum := "a0c765f8de287c281669f1e4a6a0d38834bcc540bf7b273d16ccfedfd2645701", func := "coffeehouse/coffeehouselaw3.CheckLeast", spec := "checkLeast", inPlace := ["internal/bytealg.IndexByteString", "internal/bytealg.IndexString"], unfollowed := true, recurses := true, named := ["unicode/utf8.first", "unicode/utf8.acceptRanges", "coffeehouse/ins.forms", "internal/bytealg.MaxLen"], apart := false, laid := [("unicode/utf8.acceptRanges", laid_unicode_utf8_acceptRanges), ("coffeehouse/ins.forms", laid_coffeehouse_ins_forms), ("unicode/utf8.first", laid_unicode_utf8_first)] }
def CheckLeastSaid : Prop := checkLeastRow.holds Tryz.pinned (OpenSpec.ofChange checkLeastSpec)

/-- ITS FALSE NEIGHBOUR: 'it returns false'. Refute it at one input. -/
def checkLeastWrong : ChangeSpec := { name := "checkLeast", fn := fun _ => fun
  | [d1, d2, d3] => { results := [.lit (.bool false)], args := [d1, d2, d3] }
  | _ => none }
def CheckLeastWrongFalsely : Prop := checkLeastRow.holds Tryz.pinned (OpenSpec.ofChange checkLeastWrong)

/-- 'coffeehouselaw3.MapsSound': WHATEVER THE INPUT: true; the input reads as it did. -/
def mapsSoundSpec : ChangeSpec := { name := "mapsSound", fn := fun _ => fun
  | [d1, d2, d3, d4] => { results := [.lit (.bool true)], args := [d1, d2, d3, d4] }
  | _ => none }
def mapsSoundRow : OpenClaim := { program := "ytlmfmioljeppfaagreatdoor", sum := "a0c765f8de287c281669f1e4a6a0d38834bcc540bf7b273d16ccfedfd2645701", func := "coffeehouse/coffeehouselaw3.MapsSound", spec := "mapsSound", inPlace := ["internal/bytealg.IndexByteString", "internal/bytealg.IndexString"], unfollowed := true, recurses := true, named := ["unicode/utf8.first", "unicode/utf8.acceptRanges", "coffeehouse/ins.forms", "internal/bytealg.MaxLen"], apart := false, laid := [("unicode/utf8.acceptRanges", laid_unicode_utf8_acceptRanges), ("coffeehouse/ins.forms", laid_coffeehouse_ins_forms), ("unicode/utf8.first", laid_unicode_utf8_first)] }
def MapsSoundSaid : Prop := mapsSoundRow.holds Tryz.pinned (OpenSpec.ofChange mapsSoundSpec)

/-- ITS FALSE NEIGHBOUR: 'it returns false'. Refute it at one input. -/
def mapsSoundWrong : ChangeSpec := { name := "mapsSound", fn := fun _ => fun
  | [d1, d2, d3, d4] => { results := [.lit (.bool false)], args := [d1, d2, d3, d4] }
  | _ => none }
def MapsSoundWrongFalsely : Prop := mapsSoundRow.holds Tryz.pinned (OpenSpec.ofChange mapsSoundWrong)

/-- 'coffeehouselaw3.MapsNeeds': WHATEVER THE INPUT: true; the input reads as it did. -/
def mapsNeedsSpec : ChangeSpec := { name := "mapsNeeds", fn := fun _ => fun
  | [d1, d2, d3] => { results := [.lit (.bool true)], args := [d1, d2, d3] }
  | _ => none }
def mapsNeedsRow : OpenClaim := { program := "ytlmfmioljeppfaagreatdoor", sum := "a0c765f8de287c281669f1e4a6a0d38834bcc540bf7b273d16ccfedfd2645701", func := "coffeehouse/coffeehouselaw3.MapsNeeds", spec := "mapsNeeds", inPlace := ["internal/bytealg.IndexByteString", "internal/bytealg.IndexString"], unfollowed := true, recurses := true, named := ["unicode/utf8.first", "unicode/utf8.acceptRanges", "coffeehouse/ins.forms", "internal/bytealg.MaxLen"], apart := false, laid := [("unicode/utf8.acceptRanges", laid_unicode_utf8_acceptRanges), ("coffeehouse/ins.forms", laid_coffeehouse_ins_forms), ("unicode/utf8.first", laid_unicode_utf8_first)] }
def MapsNeedsSaid : Prop := mapsNeedsRow.holds Tryz.pinned (OpenSpec.ofChange mapsNeedsSpec)

/-- ITS FALSE NEIGHBOUR: 'it returns false'. Refute it at one input. -/
def mapsNeedsWrong : ChangeSpec := { name := "mapsNeeds", fn := fun _ => fun
  | [d1, d2, d3] => { results := [.lit (.bool false)], args := [d1, d2, d3] }
  | _ => none }
def MapsNeedsWrongFalsely : Prop := mapsNeedsRow.holds Tryz.pinned (OpenSpec.ofChange mapsNeedsWrong)

/-- 'coffeehouselaw3.MapsEnough': WHATEVER THE INPUT: true; the input reads as it did. -/
def mapsEnoughSpec : ChangeSpec := { name := "mapsEnough", fn := fun _ => fun
  | [d1, d2, d3] => { results := [.lit (.bool true)], args := [d1, d2, d3] }
  | _ => none }
def mapsEnoughRow : OpenClaim := { program := "ytlmfmioljeppfaagreatdoor", sum := "a0c765f8de287c281669f1e4a6a0d38834bcc540bf7b273d16ccfedfd2645701", func := "coffeehouse/coffeehouselaw3.MapsEnough", spec := "mapsEnough", inPlace := ["internal/bytealg.IndexByteString", "internal/bytealg.IndexString"], unfollowed := true, recurses := true, named := ["unicode/utf8.first", "unicode/utf8.acceptRanges", "coffeehouse/ins.forms", "internal/bytealg.MaxLen"], apart := false, laid := [("unicode/utf8.acceptRanges", laid_unicode_utf8_acceptRanges), ("coffeehouse/ins.forms", laid_coffeehouse_ins_forms), ("unicode/utf8.first", laid_unicode_utf8_first)] }
def MapsEnoughSaid : Prop := mapsEnoughRow.holds Tryz.pinned (OpenSpec.ofChange mapsEnoughSpec)

/-- ITS FALSE NEIGHBOUR: 'it returns false'. Refute it at one input. -/
def mapsEnoughWrong : ChangeSpec := { name := "mapsEnough", fn := fun _ => fun
  | [d1, d2, d3] => { results := [.lit (.bool false)], args := [d1, d2, d3] }
  | _ => none }
def MapsEnoughWrongFalsely : Prop := mapsEnoughRow.holds Tryz.pinned (OpenSpec.ofChange mapsEnoughWrong)

/-- 'coffeehouselaw3.MapsWanting': WHATEVER THE INPUT: true; the input reads as it did. -/
def mapsWantingSpec : ChangeSpec := { name := "mapsWanting", fn := fun _ => fun
  | [d1, d2, d3, d4] => { results := [.lit (.bool true)], args := [d1, d2, d3, d4] }
  | _ => none }
def mapsWantingRow : OpenClaim := { program := "ytlmfmioljeppfaagreatdoor", sum := "a0c765f8de287c281669f1e4a6a0d38834bcc540bf7b273d16ccfedfd2645701", func := "coffeehouse/coffeehouselaw3.MapsWanting", spec := "mapsWanting", inPlace := ["internal/bytealg.IndexByteString", "internal/bytealg.IndexString"], unfollowed := true, recurses := true, named := ["unicode/utf8.first", "unicode/utf8.acceptRanges", "coffeehouse/ins.forms", "internal/bytealg.MaxLen"], apart := false, laid := [("unicode/utf8.acceptRanges", laid_unicode_utf8_acceptRanges), ("coffeehouse/ins.forms", laid_coffeehouse_ins_forms), ("unicode/utf8.first", laid_unicode_utf8_first)] }
def MapsWantingSaid : Prop := mapsWantingRow.holds Tryz.pinned (OpenSpec.ofChange mapsWantingSpec)

/-- ITS FALSE NEIGHBOUR: 'it returns false'. Refute it at one input. -/
def mapsWantingWrong : ChangeSpec := { name := "mapsWanting", fn := fun _ => fun
  | [d1, d2, d3, d4] => { results := [.lit (.bool false)], args := [d1, d2, d3, d4] }
  | _ => none }
def MapsWantingWrongFalsely : Prop := mapsWantingRow.holds Tryz.pinned (OpenSpec.ofChange mapsWantingWrong)

/- THE SECOND FORM. 'bulk': how many values and letters a reading holds, each counted each time it is reached (what is shared counts as often as it is met; a slice's spare places count too). A statement '..UptoSaid' is the law's where the arguments, and the package variables that the reading takes, are together of bulk at most 1048576: NARROWER than '..Said'. Prove '..Said' where nothing that the law and all that it calls make is longer than what came in: it says more and counts as full. Else prove '..UptoSaid'. A law counts once. -/
mutual
def uptoBulk {H : Type} : DataW H → Nat
  | .lit (.string bytes) => bytes.length + 1
  | .lit _ => 1
  | .nil => 1
  | .ptr d => uptoBulk d + 1
  | .slice elems spare => uptoBulkAll elems + uptoBulkAll spare + 1
  | .agg parts => uptoBulkAll parts + 1
  | .iface _ d => uptoBulk d + 1
  | .map entries => uptoBulkEntries entries + 1
  | .held _ => 1
def uptoBulkAll {H : Type} : List (DataW H) → Nat
  | [] => 0
  | d :: r => uptoBulk d + uptoBulkAll r
def uptoBulkEntries {H : Type} : List (Lit × DataW H) → Nat
  | [] => 0
  | x :: r => uptoBulkEntry x + uptoBulkEntries r
def uptoBulkEntry {H : Type} : Lit × DataW H → Nat
  | (.string bytes, d) => bytes.length + uptoBulk d + 1
  | (_, d) => uptoBulk d + 1
 end
def uptoSmall : (H : Type) → List (DataW H) → Bool := fun _ ds => decide (uptoBulkAll ds ≤ 1048576)
def OpenSpec.upto (s : _root_.Go.ChangeSpec) : _root_.Go.OpenSpec := { _root_.Go.OpenSpec.ofChange s with cond := some uptoSmall }

/-- 'coffeehouselaw3.FrameSteps', WHERE WHAT IT READS IS OF BULK AT MOST 1048576: true; the input reads as it did. -/
def frameStepsUptoRow : OpenClaim := { program := "ytlmfmioljeppfaagreatdoor", sum := "a0c765f8de287c281669f1e4a6a0d38834bcc540bf7b273d16ccfedfd2645701", func := "coffeehouse/coffeehouselaw3.FrameSteps", spec := "frameSteps", inPlace := ["internal/bytealg.IndexByteString", "internal/bytealg.IndexString"], unfollowed := true, recurses := true, named := ["unicode/utf8.first", "unicode/utf8.acceptRanges", "coffeehouse/ins.forms", "internal/bytealg.MaxLen"], apart := false, laid := [("unicode/utf8.acceptRanges", laid_unicode_utf8_acceptRanges), ("coffeehouse/ins.forms", laid_coffeehouse_ins_forms), ("unicode/utf8.first", laid_unicode_utf8_first)], narrowed := true }
def FrameStepsUptoSaid : Prop := frameStepsUptoRow.holds Tryz.pinned (OpenSpec.upto frameStepsSpec)

/-- 'coffeehouselaw3.CheckTells', WHERE WHAT IT READS IS OF BULK AT MOST 1048576: true; the input reads as it did. -/
def checkTellsUptoRow : OpenClaim := { program := "ytlmfmioljeppfaagreatdoor", sum := "a0c765f8de287c281669f1e4a6a0d38834bcc540bf7b273d16ccfedfd2645701", func := "coffeehouse/coffeehouselaw3.CheckTells", spec := "checkTells", inPlace := ["internal/bytealg.IndexByteString", "internal/bytealg.IndexString"], unfollowed := true, recurses := true, named := ["unicode/utf8.first", "unicode/utf8.acceptRanges", "coffeehouse/ins.forms", "internal/bytealg.MaxLen"], apart := false, laid := [("unicode/utf8.acceptRanges", laid_unicode_utf8_acceptRanges), ("coffeehouse/ins.forms", laid_coffeehouse_ins_forms), ("unicode/utf8.first", laid_unicode_utf8_first)], narrowed := true }
def CheckTellsUptoSaid : Prop := checkTellsUptoRow.holds Tryz.pinned (OpenSpec.upto checkTellsSpec)

/-- 'coffeehouselaw3.CheckLeast', WHERE WHAT IT READS IS OF BULK AT MOST 1048576: true; the input reads as it did. -/
def checkLeastUptoRow : OpenClaim := { program := "ytlmfmioljeppfaagreatdoor", sum := "a0c765f8de287c281669f1e4a6a0d38834bcc540bf7b273d16ccfedfd2645701", func := "coffeehouse/coffeehouselaw3.CheckLeast", spec := "checkLeast", inPlace := ["internal/bytealg.IndexByteString", "internal/bytealg.IndexString"], unfollowed := true, recurses := true, named := ["unicode/utf8.first", "unicode/utf8.acceptRanges", "coffeehouse/ins.forms", "internal/bytealg.MaxLen"], apart := false, laid := [("unicode/utf8.acceptRanges", laid_unicode_utf8_acceptRanges), ("coffeehouse/ins.forms", laid_coffeehouse_ins_forms), ("unicode/utf8.first", laid_unicode_utf8_first)], narrowed := true }
def CheckLeastUptoSaid : Prop := checkLeastUptoRow.holds Tryz.pinned (OpenSpec.upto checkLeastSpec)

/-- 'coffeehouselaw3.MapsSound', WHERE WHAT IT READS IS OF BULK AT MOST 1048576: true; the input reads as it did. -/
def mapsSoundUptoRow : OpenClaim := { program := "ytlmfmioljeppfaagreatdoor", sum := "a0c765f8de287c281669f1e4a6a0d38834bcc540bf7b273d16ccfedfd2645701", func := "coffeehouse/coffeehouselaw3.MapsSound", spec := "mapsSound", inPlace := ["internal/bytealg.IndexByteString", "internal/bytealg.IndexString"], unfollowed := true, recurses := true, named := ["unicode/utf8.first", "unicode/utf8.acceptRanges", "coffeehouse/ins.forms", "internal/bytealg.MaxLen"], apart := false, laid := [("unicode/utf8.acceptRanges", laid_unicode_utf8_acceptRanges), ("coffeehouse/ins.forms", laid_coffeehouse_ins_forms), ("unicode/utf8.first", laid_unicode_utf8_first)], narrowed := true }
def MapsSoundUptoSaid : Prop := mapsSoundUptoRow.holds Tryz.pinned (OpenSpec.upto mapsSoundSpec)

/-- 'coffeehouselaw3.MapsNeeds', WHERE WHAT IT READS IS OF BULK AT MOST 1048576: true; the input reads as it did. -/
def mapsNeedsUptoRow : OpenClaim := { program := "ytlmfmioljeppfaagreatdoor", sum := "a0c765f8de287c281669f1e4a6a0d38834bcc540bf7b273d16ccfedfd2645701", func := "coffeehouse/coffeehouselaw3.MapsNeeds", spec := "mapsNeeds", inPlace := ["internal/bytealg.IndexByteString", "internal/bytealg.IndexString"], unfollowed := true, recurses := true, named := ["unicode/utf8.first", "unicode/utf8.acceptRanges", "coffeehouse/ins.forms", "internal/bytealg.MaxLen"], apart := false, laid := [("unicode/utf8.acceptRanges", laid_unicode_utf8_acceptRanges), ("coffeehouse/ins.forms", laid_coffeehouse_ins_forms), ("unicode/utf8.first", laid_unicode_utf8_first)], narrowed := true }
def MapsNeedsUptoSaid : Prop := mapsNeedsUptoRow.holds Tryz.pinned (OpenSpec.upto mapsNeedsSpec)

/-- 'coffeehouselaw3.MapsEnough', WHERE WHAT IT READS IS OF BULK AT MOST 1048576: true; the input reads as it did. -/
def mapsEnoughUptoRow : OpenClaim := { program := "ytlmfmioljeppfaagreatdoor", sum := "a0c765f8de287c281669f1e4a6a0d38834bcc540bf7b273d16ccfedfd2645701", func := "coffeehouse/coffeehouselaw3.MapsEnough", spec := "mapsEnough", inPlace := ["internal/bytealg.IndexByteString", "internal/bytealg.IndexString"], unfollowed := true, recurses := true, named := ["unicode/utf8.first", "unicode/utf8.acceptRanges", "coffeehouse/ins.forms", "internal/bytealg.MaxLen"], apart := false, laid := [("unicode/utf8.acceptRanges", laid_unicode_utf8_acceptRanges), ("coffeehouse/ins.forms", laid_coffeehouse_ins_forms), ("unicode/utf8.first", laid_unicode_utf8_first)], narrowed := true }
def MapsEnoughUptoSaid : Prop := mapsEnoughUptoRow.holds Tryz.pinned (OpenSpec.upto mapsEnoughSpec)

/-- 'coffeehouselaw3.MapsWanting', WHERE WHAT IT READS IS OF BULK AT MOST 1048576: true; the input reads as it did. -/
def mapsWantingUptoRow : OpenClaim := { program := "ytlmfmioljeppfaagreatdoor", sum := "a0c765f8de287c281669f1e4a6a0d38834bcc540bf7b273d16ccfedfd2645701", func := "coffeehouse/coffeehouselaw3.MapsWanting", spec := "mapsWanting", inPlace := ["internal/bytealg.IndexByteString", "internal/bytealg.IndexString"], unfollowed := true, recurses := true, named := ["unicode/utf8.first", "unicode/utf8.acceptRanges", "coffeehouse/ins.forms", "internal/bytealg.MaxLen"], apart := false, laid := [("unicode/utf8.acceptRanges", laid_unicode_utf8_acceptRanges), ("coffeehouse/ins.forms", laid_coffeehouse_ins_forms), ("unicode/utf8.first", laid_unicode_utf8_first)], narrowed := true }
def MapsWantingUptoSaid : Prop := mapsWantingUptoRow.holds Tryz.pinned (OpenSpec.upto mapsWantingSpec)

end Rows
end Go.Proofs.YtlmfmioljeppfaaGreatDoor
