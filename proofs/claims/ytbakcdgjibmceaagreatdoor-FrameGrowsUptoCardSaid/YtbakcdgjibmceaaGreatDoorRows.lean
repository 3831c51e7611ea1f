/-
  NARROWER THAN 'FOR EVERY INPUT', by the rows' own cells (each row's printed sentence says how): HeapAll: laid · HeapTells: laid · HeapMakes: laid · FrameSteps: laid · FrameDeeper: laid · FrameGrows: laid · FrameTells: laid.
  DERIVED. THE GIVEN ROWS OF THIS SEAT. 7 by the template 'for every input the law returns true; each argument reads behind the call as it read before'; 0 by the template 'total and deterministic' (their statements: YtbakcdgjibmceaaGreatDoorTotals.lean).
  GIVEN WITH THE SEED: the statements are not yours to turn. If you find one false, say at which input.
  Laid BY PROGRAM, IN A SANDBOX (cutbox-rows.mjs): the forced cells as the released guide's own fill.sh prints them over the translation e23fe8c5b656aeec… (all of the seat's roots in one cut). By AI agents, Wed Nov 11 2026. No macro, syntax, notation, axiom, sorry.
-/
import Derived.Test.YtbakcdgjibmceaaGreatDoorChecked
import GoSem.PinnedTables
import GoSem.Claim
import GoSem.ClaimJoined
import GoSem.ClaimMapViews
import Derived.JoinedTies
import Derived.KernelRfl
namespace Go.Proofs.YtbakcdgjibmceaaGreatDoor
/- THE CELL 'sum', in the pinned program and in every row, IS THE sha256 OF THE DUMP (.gsa) THAT YtbakcdgjibmceaaGreatDoorProg.lean LOADS. Nothing in Lean hashes anything: it is a label: what it is worth is what the hold of that sum in a sandbox is worth. -/
noncomputable def Tryz.pinned : Pinned := { name := "ytbakcdgjibmceaagreatdoor", sum := "e23fe8c5b656aeec5200762afeb5329761c9784fcb5b78b25a34c44dd3a07a9d", checked := Tryz.checked }
namespace Rows
def none {H : Type} : Left H := { results := [], args := [] }

/- WHAT THE LISTED PACKAGE-LEVEL VARIABLES READ AS WHEN THE CALL BEGINS. Each datum BY PROGRAM (the guide's laid-datum.mjs) off the statement by which the dump's own 'gosem.cut.vars' lays the variable. In a bare row this is a premise. The card (YtbakcdgjibmceaaGreatDoorCards.lean) ties it to the program's text. -/
def laid_unicode_utf8_acceptRanges {H : Type} : DataW H := .agg [.agg [.lit (.int .u8 128), .lit (.int .u8 191)], .agg [.lit (.int .u8 160), .lit (.int .u8 191)], .agg [.lit (.int .u8 128), .lit (.int .u8 159)], .agg [.lit (.int .u8 144), .lit (.int .u8 191)], .agg [.lit (.int .u8 128), .lit (.int .u8 143)], .agg [.lit (.int .u8 0), .lit (.int .u8 0)], .agg [.lit (.int .u8 0), .lit (.int .u8 0)], .agg [.lit (.int .u8 0), .lit (.int .u8 0)], .agg [.lit (.int .u8 0), .lit (.int .u8 0)], .agg [.lit (.int .u8 0), .lit (.int .u8 0)], .agg [.lit (.int .u8 0), .lit (.int .u8 0)], .agg [.lit (.int .u8 0), .lit (.int .u8 0)], .agg [.lit (.int .u8 0), .lit (.int .u8 0)], .agg [.lit (.int .u8 0), .lit (.int .u8 0)], .agg [.lit (.int .u8 0), .lit (.int .u8 0)], .agg [.lit (.int .u8 0), .lit (.int .u8 0)]]
def laid_coffeehouse_ins_forms {H : Type} : DataW H := .agg [.agg [.lit (.string []), .lit (.string [])], .agg [.lit (.string [110, 111, 112]), .lit (.string [])], .agg [.lit (.string [112, 117, 115, 104]), .lit (.string [65, 84])], .agg [.lit (.string [110, 117, 108, 108]), .lit (.string [])], .agg [.lit (.string [108, 111, 97, 100]), .lit (.string [65])], .agg [.lit (.string [115, 116, 111, 114, 101]), .lit (.string [65])], .agg [.lit (.string [112, 111, 112]), .lit (.string [])], .agg [.lit (.string [100, 117, 112]), .lit (.string [])], .agg [.lit (.string [115, 119, 97, 112]), .lit (.string [])], .agg [.lit (.string [109, 97, 116, 104]), .lit (.string [65, 84])], .agg [.lit (.string [99, 111, 110, 118]), .lit (.string [84])], .agg [.lit (.string [111, 114, 100, 101, 114]), .lit (.string [])], .agg [.lit (.string [105, 102]), .lit (.string [65, 66])], .agg [.lit (.string [105, 102, 110, 117, 108, 108]), .lit (.string [65])], .agg [.lit (.string [103, 111, 116, 111]), .lit (.string [65])], .agg [.lit (.string [110, 101, 119]), .lit (.string [67])], .agg [.lit (.string [103, 101, 116]), .lit (.string [67, 78])], .agg [.lit (.string [112, 117, 116]), .lit (.string [67, 78])], .agg [.lit (.string [110, 101, 119, 97, 114, 114, 97, 121]), .lit (.string [84])], .agg [.lit (.string [108, 101, 110, 103, 116, 104]), .lit (.string [])], .agg [.lit (.string [97, 108, 111, 97, 100]), .lit (.string [84])], .agg [.lit (.string [97, 115, 116, 111, 114, 101]), .lit (.string [84])], .agg [.lit (.string [99, 97, 115, 116]), .lit (.string [84])], .agg [.lit (.string [105, 115]), .lit (.string [84])], .agg [.lit (.string [99, 97, 108, 108]), .lit (.string [84, 67, 78])], .agg [.lit (.string [99, 97, 108, 108, 115]), .lit (.string [84, 67, 78])], .agg [.lit (.string [114, 101, 116, 117, 114, 110]), .lit (.string [])], .agg [.lit (.string [103, 105, 118, 101]), .lit (.string [])], .agg [.lit (.string [116, 104, 114, 111, 119]), .lit (.string [])]]
/-- One of Go's own tables, pinned by name: the form's constant. -/
def laid_unicode_utf8_first : DataW Unit := Go.Pinned.utf8First

/-- 'coffeehouselaw3.HeapAll': WHATEVER THE INPUT: true; the input reads as it did. -/
def heapAllSpec : ChangeSpec := { name := "heapAll", fn := fun _ => fun
  | [d1, d2, d3, d4, d5] => { results := [.lit (.bool true)], args := [d1, d2, d3, d4, d5] }
  | _ => none }
def heapAllRow : OpenClaim := { program := "ytbakcdgjibmceaagreatdoor", sum := "e23fe8c5b656aeec5200762afeb5329761c9784fcb5b78b25a34c44dd3a07a9d", func := "coffeehouse/coffeehouselaw3.HeapAll", spec := "heapAll", inPlace := ["internal/bytealg.IndexByteString", "internal/bytealg.IndexString"], unfollowed := true, recurses := true, named := ["unicode/utf8.first", "unicode/utf8.acceptRanges", "coffeehouse/ins.forms", "internal/bytealg.MaxLen"], apart := false, laid := [("unicode/utf8.acceptRanges", laid_unicode_utf8_acceptRanges), ("coffeehouse/ins.forms", laid_coffeehouse_ins_forms), ("unicode/utf8.first", laid_unicode_utf8_first)] }
def HeapAllSaid : Prop := heapAllRow.holds Tryz.pinned (OpenSpec.ofChange heapAllSpec)

/-- ITS FALSE NEIGHBOUR: 'it returns false'. Refute it at one input. -/
def heapAllWrong : ChangeSpec := { name := "heapAll", fn := fun _ => fun
  | [d1, d2, d3, d4, d5] => { results := [.lit (.bool false)], args := [d1, d2, d3, d4, d5] }
  | _ => none }
def HeapAllWrongFalsely : Prop := heapAllRow.holds Tryz.pinned (OpenSpec.ofChange heapAllWrong)

/-- 'coffeehouselaw3.HeapTells': WHATEVER THE INPUT: true; the input reads as it did. -/
def heapTellsSpec : ChangeSpec := { name := "heapTells", fn := fun _ => fun
  | [d1, d2, d3, d4] => { results := [.lit (.bool true)], args := [d1, d2, d3, d4] }
  | _ => none }
def heapTellsRow : OpenClaim := { program := "ytbakcdgjibmceaagreatdoor", sum := "e23fe8c5b656aeec5200762afeb5329761c9784fcb5b78b25a34c44dd3a07a9d", func := "coffeehouse/coffeehouselaw3.HeapTells", spec := "heapTells", inPlace := ["internal/bytealg.IndexByteString", "internal/bytealg.IndexString"], unfollowed := true, recurses := true, named := ["unicode/utf8.first", "unicode/utf8.acceptRanges", "coffeehouse/ins.forms", "internal/bytealg.MaxLen"], apart := false, laid := [("unicode/utf8.acceptRanges", laid_unicode_utf8_acceptRanges), ("coffeehouse/ins.forms", laid_coffeehouse_ins_forms), ("unicode/utf8.first", laid_unicode_utf8_first)] }
def HeapTellsSaid : Prop := heapTellsRow.holds Tryz.pinned (OpenSpec.ofChange heapTellsSpec)

/-- ITS FALSE NEIGHBOUR: 'it returns false'. Refute it at one input. -/
def heapTellsWrong : ChangeSpec := { name := "heapTells", fn := fun _ => fun
  | [d1, d2, d3, d4] => { results := [.lit (.bool false)], args := [d1, d2, d3, d4] }
  | _ => none }
def HeapTellsWrongFalsely : Prop := heapTellsRow.holds Tryz.pinned (OpenSpec.ofChange heapTellsWrong)

/-- 'coffeehouselaw3.HeapMakes': WHATEVER THE INPUT: true; the input reads as it did. -/
def heapMakesSpec : ChangeSpec := { name := "heapMakes", fn := fun _ => fun
  | [d1, d2, d3, d4, d5] => { results := [.lit (.bool true)], args := [d1, d2, d3, d4, d5] }
  | _ => none }
def heapMakesRow : OpenClaim := { program := "ytbakcdgjibmceaagreatdoor", sum := "e23fe8c5b656aeec5200762afeb5329761c9784fcb5b78b25a34c44dd3a07a9d", func := "coffeehouse/coffeehouselaw3.HeapMakes", spec := "heapMakes", inPlace := ["internal/bytealg.IndexByteString", "internal/bytealg.IndexString"], unfollowed := true, recurses := true, named := ["unicode/utf8.first", "unicode/utf8.acceptRanges", "coffeehouse/ins.forms", "internal/bytealg.MaxLen"], apart := false, laid := [("unicode/utf8.acceptRanges", laid_unicode_utf8_acceptRanges), ("coffeehouse/ins.forms", laid_coffeehouse_ins_forms), ("unicode/utf8.first", laid_unicode_utf8_first)] }
def HeapMakesSaid : Prop := heapMakesRow.holds Tryz.pinned (OpenSpec.ofChange heapMakesSpec)

/-- ITS FALSE NEIGHBOUR: 'it returns false'. Refute it at one input. -/
def heapMakesWrong : ChangeSpec := { name := "heapMakes", fn := fun _ => fun
  | [d1, d2, d3, d4, d5] => { results := [.lit (.bool false)], args := [d1, d2, d3, d4, d5] }
  | _ => none }
def HeapMakesWrongFalsely : Prop := heapMakesRow.holds Tryz.pinned (OpenSpec.ofChange heapMakesWrong)

/-- 'coffeehouselaw3.FrameSteps': WHATEVER THE INPUT: true; the input reads as it did. -/
def frameStepsSpec : ChangeSpec := { name := "frameSteps", fn := fun _ => fun
  | [d1, d2, d3, d4, d5] => { results := [.lit (.bool true)], args := [d1, d2, d3, d4, d5] }
  | _ => none }
def frameStepsRow : OpenClaim := { program := "ytbakcdgjibmceaagreatdoor", sum := "e23fe8c5b656aeec5200762afeb5329761c9784fcb5b78b25a34c44dd3a07a9d", func := "coffeehouse/coffeehouselaw3.FrameSteps", spec := "frameSteps", inPlace := ["internal/bytealg.IndexByteString", "internal/bytealg.IndexString"], unfollowed := true, recurses := true, named := ["unicode/utf8.first", "unicode/utf8.acceptRanges", "coffeehouse/ins.forms", "internal/bytealg.MaxLen"], apart := false, laid := [("unicode/utf8.acceptRanges", laid_unicode_utf8_acceptRanges), ("coffeehouse/ins.forms", laid_coffeehouse_ins_forms), ("unicode/utf8.first", laid_unicode_utf8_first)] }
def FrameStepsSaid : Prop := frameStepsRow.holds Tryz.pinned (OpenSpec.ofChange frameStepsSpec)

/-- ITS FALSE NEIGHBOUR: 'it returns false'. Refute it at one input. -/
def frameStepsWrong : ChangeSpec := { name := "frameSteps", fn := fun _ => fun
  | [d1, d2, d3, d4, d5] => { results := [.lit (.bool false)], args := [d1, d2, d3, d4, d5] }
  | _ => none }
def FrameStepsWrongFalsely : Prop := frameStepsRow.holds Tryz.pinned (OpenSpec.ofChange frameStepsWrong)

/-- 'coffeehouselaw3.FrameDeeper': WHATEVER THE INPUT: true; the input reads as it did. -/
def frameDeeperSpec : ChangeSpec := { name := "frameDeeper", fn := fun _ => fun
  | [d1, d2, d3, d4, d5, d6] => { results := [.lit (.bool true)], args := [d1, d2, d3, d4, d5, d6] }
  | _ => none }
def frameDeeperRow : OpenClaim := { program := "ytbakcdgjibmceaagreatdoor", sum := "e23fe8c5b656aeec5200762afeb5329761c9784fcb5b78b25a34c44dd3a07a9d", func := "coffeehouse/coffeehouselaw3.FrameDeeper", spec := "frameDeeper", inPlace := ["internal/bytealg.IndexByteString", "internal/bytealg.IndexString"], unfollowed := true, recurses := true, named := ["unicode/utf8.first", "unicode/utf8.acceptRanges", "coffeehouse/ins.forms", "internal/bytealg.MaxLen"], apart := false, laid := [("unicode/utf8.acceptRanges", laid_unicode_utf8_acceptRanges), ("coffeehouse/ins.forms", laid_coffeehouse_ins_forms), ("unicode/utf8.first", laid_unicode_utf8_first)] }
def FrameDeeperSaid : Prop := frameDeeperRow.holds Tryz.pinned (OpenSpec.ofChange frameDeeperSpec)

/-- ITS FALSE NEIGHBOUR: 'it returns false'. Refute it at one input. -/
def frameDeeperWrong : ChangeSpec := { name := "frameDeeper", fn := fun _ => fun
  | [d1, d2, d3, d4, d5, d6] => { results := [.lit (.bool false)], args := [d1, d2, d3, d4, d5, d6] }
  | _ => none }
def FrameDeeperWrongFalsely : Prop := frameDeeperRow.holds Tryz.pinned (OpenSpec.ofChange frameDeeperWrong)

/-- 'coffeehouselaw3.FrameGrows': WHATEVER THE INPUT: true; the input reads as it did. -/
def frameGrowsSpec : ChangeSpec := { name := "frameGrows", fn := fun _ => fun
  | [d1, d2, d3, d4, d5, d6] => { results := [.lit (.bool true)], args := [d1, d2, d3, d4, d5, d6] }
  | _ => none }
def frameGrowsRow : OpenClaim := { program := "ytbakcdgjibmceaagreatdoor", sum := "e23fe8c5b656aeec5200762afeb5329761c9784fcb5b78b25a34c44dd3a07a9d", func := "coffeehouse/coffeehouselaw3.FrameGrows", spec := "frameGrows", inPlace := ["internal/bytealg.IndexByteString", "internal/bytealg.IndexString"], unfollowed := true, recurses := true, named := ["unicode/utf8.first", "unicode/utf8.acceptRanges", "coffeehouse/ins.forms", "internal/bytealg.MaxLen"], apart := false, laid := [("unicode/utf8.acceptRanges", laid_unicode_utf8_acceptRanges), ("coffeehouse/ins.forms", laid_coffeehouse_ins_forms), ("unicode/utf8.first", laid_unicode_utf8_first)] }
def FrameGrowsSaid : Prop := frameGrowsRow.holds Tryz.pinned (OpenSpec.ofChange frameGrowsSpec)

/-- ITS FALSE NEIGHBOUR: 'it returns false'. Refute it at one input. -/
def frameGrowsWrong : ChangeSpec := { name := "frameGrows", fn := fun _ => fun
  | [d1, d2, d3, d4, d5, d6] => { results := [.lit (.bool false)], args := [d1, d2, d3, d4, d5, d6] }
  | _ => none }
def FrameGrowsWrongFalsely : Prop := frameGrowsRow.holds Tryz.pinned (OpenSpec.ofChange frameGrowsWrong)

/-- 'coffeehouselaw3.FrameTells': WHATEVER THE INPUT: true; the input reads as it did. -/
def frameTellsSpec : ChangeSpec := { name := "frameTells", fn := fun _ => fun
  | [d1, d2, d3] => { results := [.lit (.bool true)], args := [d1, d2, d3] }
  | _ => none }
def frameTellsRow : OpenClaim := { program := "ytbakcdgjibmceaagreatdoor", sum := "e23fe8c5b656aeec5200762afeb5329761c9784fcb5b78b25a34c44dd3a07a9d", func := "coffeehouse/coffeehouselaw3.FrameTells", spec := "frameTells", inPlace := ["internal/bytealg.IndexByteString", "internal/bytealg.IndexString"], unfollowed := true, recurses := true, named := ["unicode/utf8.first", "unicode/utf8.acceptRanges", "coffeehouse/ins.forms", "internal/bytealg.MaxLen"], apart := false, laid := [("unicode/utf8.acceptRanges", laid_unicode_utf8_acceptRanges), ("coffeehouse/ins.forms", laid_coffeehouse_ins_forms), ("unicode/utf8.first", laid_unicode_utf8_first)] }
def FrameTellsSaid : Prop := frameTellsRow.holds Tryz.pinned (OpenSpec.ofChange frameTellsSpec)

/-- ITS FALSE NEIGHBOUR: 'it returns false'. Refute it at one input. -/
def frameTellsWrong : ChangeSpec := { name := "frameTells", fn := fun _ => fun
  | [d1, d2, d3] => { results := [.lit (.bool false)], args := [d1, d2, d3] }
  | _ => none }
def FrameTellsWrongFalsely : Prop := frameTellsRow.holds Tryz.pinned (OpenSpec.ofChange frameTellsWrong)

/- THE SECOND FORM. 'bulk': how many values and letters a reading holds, each counted each time it is reached (what is shared counts as often as it is met; a slice's spare places count too). A statement '..UptoSaid' is the law's where the arguments, and the package variables that the reading takes, are together of bulk at most 1048576: NARROWER than '..Said'. Prove '..Said' where nothing that the law and all that it calls make is longer than what came in: it says more and counts as full. Else prove '..UptoSaid'. A law counts once. -/
mutual
def uptoBulk {H : Type} : DataW H → Nat
  | .lit (.string bytes) => bytes.length + 1
  | .lit _ => 1
  | .nil => 1
  | .ptr d => uptoBulk d + 1
  | .slice elems spare => uptoBulkAll elems + uptoBulkAll spare + 1
  | .agg parts => uptoBulkAll parts + 1
  | .iface _ d => uptoBulk d + 1
  | .map entries => uptoBulkEntries entries + 1
  | .held _ => 1
def uptoBulkAll {H : Type} : List (DataW H) → Nat
  | [] => 0
  | d :: r => uptoBulk d + uptoBulkAll r
def uptoBulkEntries {H : Type} : List (Lit × DataW H) → Nat
  | [] => 0
  | x :: r => uptoBulkEntry x + uptoBulkEntries r
def uptoBulkEntry {H : Type} : Lit × DataW H → Nat
  | (.string bytes, d) => bytes.length + uptoBulk d + 1
  | (_, d) => uptoBulk d + 1
 end
def uptoSmall : (H : Type) → List (DataW H) → Bool := fun _ ds => decide (uptoBulkAll ds ≤ 1048576)
def OpenSpec.upto (s : _root_.Go.ChangeSpec) : _root_.Go.OpenSpec := { _root_.Go.OpenSpec.ofChange s with cond := some uptoSmall }

/-- 'coffeehouselaw3.HeapAll', WHERE WHAT IT READS IS OF BULK AT MOST 1048576: true; the input reads as it did. -/
def heapAllUptoRow : OpenClaim := { program := "ytbakcdgjibmceaagreatdoor", sum := "e23fe8c5b656aeec5200762afeb5329761c9784fcb5b78b25a34c44dd3a07a9d", func := "coffeehouse/coffeehouselaw3.HeapAll", spec := "heapAll", inPlace := ["internal/bytealg.IndexByteString", "internal/bytealg.IndexString"], unfollowed := true, recurses := true, named := ["unicode/utf8.first", "unicode/utf8.acceptRanges", "coffeehouse/ins.forms", "internal/bytealg.MaxLen"], apart := false, laid := [("unicode/utf8.acceptRanges", laid_unicode_utf8_acceptRanges), ("coffeehouse/ins.forms", laid_coffeehouse_ins_forms), ("unicode/utf8.first", laid_unicode_utf8_first)], narrowed := true }
def HeapAllUptoSaid : Prop := heapAllUptoRow.holds Tryz.pinned (OpenSpec.upto heapAllSpec)

/-- 'coffeehouselaw3.HeapTells', WHERE WHAT IT READS IS OF BULK AT MOST 1048576: true; the input reads as it did. -/
def heapTellsUptoRow : OpenClaim := { program := "ytbakcdgjibmceaagreatdoor", sum := "e23fe8c5b656aeec5200762afeb5329761c9784fcb5b78b25a34c44dd3a07a9d", func := "coffeehouse/coffeehouselaw3.HeapTells", spec := "heapTells", inPlace := ["internal/bytealg.IndexByteString", "internal/bytealg.IndexString"], unfollowed := true, recurses := true, named := ["unicode/utf8.first", "unicode/utf8.acceptRanges", "coffeehouse/ins.forms", "internal/bytealg.MaxLen"], apart := false, laid := [("unicode/utf8.acceptRanges", laid_unicode_utf8_acceptRanges), ("coffeehouse/ins.forms", laid_coffeehouse_ins_forms), ("unicode/utf8.first", laid_unicode_utf8_first)], narrowed := true }
def HeapTellsUptoSaid : Prop := heapTellsUptoRow.holds Tryz.pinned (OpenSpec.upto heapTellsSpec)

/-- 'coffeehouselaw3.HeapMakes', WHERE WHAT IT READS IS OF BULK AT MOST 1048576: true; the input reads as it did. -/
def heapMakesUptoRow : OpenClaim := { program := "ytbakcdgjibmceaagreatdoor", sum := "e23fe8c5b656aeec5200762afeb5329761c9784fcb5b78b25a34c44dd3a07a9d", func := "coffeehouse/coffeehouselaw3.HeapMakes", spec := "heapMakes", inPlace := ["internal/bytealg.IndexByteString", "internal/bytealg.IndexString"], unfollowed := true, recurses := true, named := ["unicode/utf8.first", "unicode/utf8.acceptRanges", "coffeehouse/ins.forms", "internal/bytealg.MaxLen"], apart := false, laid := [("unicode/utf8.acceptRanges", laid_unicode_utf8_acceptRanges), ("coffeehouse/ins.forms", laid_coffeehouse_ins_forms), ("unicode/utf8.first", laid_unicode_utf8_first)], narrowed := true }
def HeapMakesUptoSaid : Prop := heapMakesUptoRow.holds Tryz.pinned (OpenSpec.upto heapMakesSpec)

/-- 'coffeehouselaw3.FrameSteps', WHERE WHAT IT READS IS OF BULK AT MOST 1048576: true; the input reads as it did. -/
def frameStepsUptoRow : OpenClaim := { program := "ytbakcdgjibmceaagreatdoor", sum := "e23fe8c5b656aeec5200762afeb5329761c9784fcb5b78b25a34c44dd3a07a9d", func := "coffeehouse/coffeehouselaw3.FrameSteps", spec := "frameSteps", inPlace := ["internal/bytealg.IndexByteString", "internal/bytealg.IndexString"], unfollowed := true, recurses := true, named := ["unicode/utf8.first", "unicode/utf8.acceptRanges", "coffeehouse/ins.forms", "internal/bytealg.MaxLen"], apart := false, laid := [("unicode/utf8.acceptRanges", laid_unicode_utf8_acceptRanges), ("coffeehouse/ins.forms", laid_coffeehouse_ins_forms), ("unicode/utf8.first", laid_unicode_utf8_first)], narrowed := true }
def FrameStepsUptoSaid : Prop := frameStepsUptoRow.holds Tryz.pinned (OpenSpec.upto frameStepsSpec)

/-- 'coffeehouselaw3.FrameDeeper', WHERE WHAT IT READS IS OF BULK AT MOST 1048576: true; the input reads as it did. -/
def frameDeeperUptoRow : OpenClaim := { program := "ytbakcdgjibmceaagreatdoor", sum := "e23fe8c5b656aeec5200762afeb5329761c9784fcb5b78b25a34c44dd3a07a9d", func := "coffeehouse/coffeehouselaw3.FrameDeeper", spec := "frameDeeper", inPlace := ["internal/bytealg.IndexByteString", "internal/bytealg.IndexString"], unfollowed := true, recurses := true, named := ["unicode/utf8.first", "unicode/utf8.acceptRanges", "coffeehouse/ins.forms", "internal/bytealg.MaxLen"], apart := false, laid := [("unicode/utf8.acceptRanges", laid_unicode_utf8_acceptRanges), ("coffeehouse/ins.forms", laid_coffeehouse_ins_forms), ("unicode/utf8.first", laid_unicode_utf8_first)], narrowed := true }
def FrameDeeperUptoSaid : Prop := frameDeeperUptoRow.holds Tryz.pinned (OpenSpec.upto frameDeeperSpec)

/-- 'coffeehouselaw3.FrameGrows', WHERE WHAT IT READS IS OF BULK AT MOST 1048576: true; the input reads as it did. -/
def frameGrowsUptoRow : OpenClaim := { program := "ytbakcdgjibmceaagreatdoor", sum := "e23fe8c5b656aeec5200762afeb5329761c9784fcb5b78b25a34c44dd3a07a9d", func := "coffeehouse/coffeehouselaw3.FrameGrows", spec := "frameGrows", inPlace := ["internal/bytealg.IndexByteString", "internal/bytealg.IndexString"], unfollowed := true, recurses := true, named := ["unicode/utf8.first", "unicode/utf8.acceptRanges", "coffeehouse/ins.forms", "internal/bytealg.MaxLen"], apart := false, laid := [("unicode/utf8.acceptRanges", laid_unicode_utf8_acceptRanges), ("coffeehouse/ins.forms", laid_coffeehouse_ins_forms), ("unicode/utf8.first", laid_unicode_utf8_first)], narrowed := true }
def FrameGrowsUptoSaid : Prop := frameGrowsUptoRow.holds Tryz.pinned (OpenSpec.upto frameGrowsSpec)

/-- 'coffeehouselaw3.FrameTells', WHERE WHAT IT READS IS OF BULK AT MOST 1048576: true; the input reads as it did. -/
def frameTellsUptoRow : OpenClaim := { program := "ytbakcdgjibmceaagreatdoor", sum := "e23fe8c5b656aeec5200762afeb5329761c9784fcb5b78b25a34c44dd3a07a9d", func := "coffeehouse/coffeehouselaw3.FrameTells", spec := "frameTells", inPlace := ["internal/bytealg.IndexByteString", "internal/bytealg.IndexString"], unfollowed := true, recurses := true, named := ["unicode/utf8.first", "unicode/utf8.acceptRanges", "coffeehouse/ins.forms", "internal/bytealg.MaxLen"], apart := false, laid := [("unicode/utf8.acceptRanges", laid_unicode_utf8_acceptRanges), ("coffeehouse/ins.forms", laid_coffeehouse_ins_forms), ("unicode/utf8.first", laid_unicode_utf8_first)], narrowed := true }
def FrameTellsUptoSaid : Prop := frameTellsUptoRow.holds Tryz.pinned (OpenSpec.upto frameTellsSpec)

end Rows
end Go.Proofs.YtbakcdgjibmceaaGreatDoor
