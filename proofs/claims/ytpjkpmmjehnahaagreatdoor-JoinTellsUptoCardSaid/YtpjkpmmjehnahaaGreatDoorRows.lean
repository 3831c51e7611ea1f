/-
  NARROWER THAN 'FOR EVERY INPUT', by the rows' own cells (each row's printed sentence says how): RightTells: laid · VtabPrefix: laid · FindTells: laid · LayTells: laid · SubTells: laid · SubOrder: laid · JoinLattice: laid · JoinTells: laid · VtabTells: laid · JoinAbove: laid.
  DERIVED. THE GIVEN ROWS OF THIS SEAT. 10 by the template 'for every input the law returns true; each argument reads behind the call as it read before'; 0 by the template 'total and deterministic' (their statements: YtpjkpmmjehnahaaGreatDoorTotals.lean).
  GIVEN WITH THE SEED: the statements are not yours to turn. If you find one false, say at which input.
  Laid BY PROGRAM, IN A SANDBOX (cutbox-rows.mjs): the forced cells as the released guide's own fill.sh prints them over the translation a4c3096ce6e803ff… (all of the seat's roots in one cut). By AI agents, Wed Nov 11 2026. No macro, syntax, notation, axiom, sorry.
-/
import Derived.Test.YtpjkpmmjehnahaaGreatDoorChecked
import GoSem.PinnedTables
import GoSem.Claim
import GoSem.ClaimJoined
import GoSem.ClaimMapViews
import Derived.JoinedTies
import Derived.KernelRfl
namespace Go.Proofs.YtpjkpmmjehnahaaGreatDoor
/- THE CELL 'sum', in the pinned program and in every row, IS THE sha256 OF THE DUMP (.gsa) THAT YtpjkpmmjehnahaaGreatDoorProg.lean LOADS. Nothing in Lean hashes anything: it is a label: what it is worth is what the hold of that sum in a sandbox is worth. -/
noncomputable def Tryz.pinned : Pinned := { name := "ytpjkpmmjehnahaagreatdoor", sum := "a4c3096ce6e803ffb39855593fe24994aaf878abfc1e51edc4a2e142398fc34e", checked := Tryz.checked }
namespace Rows
def none {H : Type} : Left H := { results := [], args := [] }

/- WHAT THE LISTED PACKAGE-LEVEL VARIABLES READ AS WHEN THE CALL BEGINS. Each datum BY PROGRAM (the guide's laid-datum.mjs) off the statement by which the dump's own 'gosem.cut.vars' lays the variable. In a bare row this is a premise. The card (YtpjkpmmjehnahaaGreatDoorCards.lean) ties it to the program's text. -/
def laid_unicode_utf8_acceptRanges {H : Type} : DataW H := .agg [.agg [.lit (.int .u8 128), .lit (.int .u8 191)], .agg [.lit (.int .u8 160), .lit (.int .u8 191)], .agg [.lit (.int .u8 128), .lit (.int .u8 159)], .agg [.lit (.int .u8 144), .lit (.int .u8 191)], .agg [.lit (.int .u8 128), .lit (.int .u8 143)], .agg [.lit (.int .u8 0), .lit (.int .u8 0)], .agg [.lit (.int .u8 0), .lit (.int .u8 0)], .agg [.lit (.int .u8 0), .lit (.int .u8 0)], .agg [.lit (.int .u8 0), .lit (.int .u8 0)], .agg [.lit (.int .u8 0), .lit (.int .u8 0)], .agg [.lit (.int .u8 0), .lit (.int .u8 0)], .agg [.lit (.int .u8 0), .lit (.int .u8 0)], .agg [.lit (.int .u8 0), .lit (.int .u8 0)], .agg [.lit (.int .u8 0), .lit (.int .u8 0)], .agg [.lit (.int .u8 0), .lit (.int .u8 0)], .agg [.lit (.int .u8 0), .lit (.int .u8 0)]]
def laid_coffeehouse_ins_forms {H : Type} : DataW H := .agg [.agg [.lit (.string []), .lit (.string [])], .agg [.lit (.string [110, 111, 112]), .lit (.string [])], .agg [.lit (.string [112, 117, 115, 104]), .lit (.string [65, 84])], .agg [.lit (.string [110, 117, 108, 108]), .lit (.string [])], .agg [.lit (.string [108, 111, 97, 100]), .lit (.string [65])], .agg [.lit (.string [115, 116, 111, 114, 101]), .lit (.string [65])], .agg [.lit (.string [112, 111, 112]), .lit (.string [])], .agg [.lit (.string [100, 117, 112]), .lit (.string [])], .agg [.lit (.string [115, 119, 97, 112]), .lit (.string [])], .agg [.lit (.string [109, 97, 116, 104]), .lit (.string [65, 84])], .agg [.lit (.string [99, 111, 110, 118]), .lit (.string [84])], .agg [.lit (.string [111, 114, 100, 101, 114]), .lit (.string [])], .agg [.lit (.string [105, 102]), .lit (.string [65, 66])], .agg [.lit (.string [105, 102, 110, 117, 108, 108]), .lit (.string [65])], .agg [.lit (.string [103, 111, 116, 111]), .lit (.string [65])], .agg [.lit (.string [110, 101, 119]), .lit (.string [67])], .agg [.lit (.string [103, 101, 116]), .lit (.string [67, 78])], .agg [.lit (.string [112, 117, 116]), .lit (.string [67, 78])], .agg [.lit (.string [110, 101, 119, 97, 114, 114, 97, 121]), .lit (.string [84])], .agg [.lit (.string [108, 101, 110, 103, 116, 104]), .lit (.string [])], .agg [.lit (.string [97, 108, 111, 97, 100]), .lit (.string [84])], .agg [.lit (.string [97, 115, 116, 111, 114, 101]), .lit (.string [84])], .agg [.lit (.string [99, 97, 115, 116]), .lit (.string [84])], .agg [.lit (.string [105, 115]), .lit (.string [84])], .agg [.lit (.string [99, 97, 108, 108]), .lit (.string [84, 67, 78])], .agg [.lit (.string [99, 97, 108, 108, 115]), .lit (.string [84, 67, 78])], .agg [.lit (.string [114, 101, 116, 117, 114, 110]), .lit (.string [])], .agg [.lit (.string [103, 105, 118, 101]), .lit (.string [])], .agg [.lit (.string [116, 104, 114, 111, 119]), .lit (.string [])]]
/-- One of Go's own tables, pinned by name: the form's constant. -/
def laid_unicode_utf8_first : DataW Unit := Go.Pinned.utf8First

/-- 'coffeehouselaw2.RightTells': WHATEVER THE INPUT: true; the input reads as it did. -/
def rightTellsSpec : ChangeSpec := { name := "rightTells", fn := fun _ => fun
  | [d1, d2, d3, d4, d5, d6] => { results := [.lit (.bool true)], args := [d1, d2, d3, d4, d5, d6] }
  | _ => none }
def rightTellsRow : OpenClaim := { program := "ytpjkpmmjehnahaagreatdoor", sum := "a4c3096ce6e803ffb39855593fe24994aaf878abfc1e51edc4a2e142398fc34e", func := "coffeehouse/coffeehouselaw2.RightTells", spec := "rightTells", inPlace := ["internal/bytealg.IndexByteString", "internal/bytealg.IndexString"], unfollowed := true, recurses := true, named := ["unicode/utf8.first", "unicode/utf8.acceptRanges", "coffeehouse/ins.forms", "internal/bytealg.MaxLen"], apart := false, laid := [("unicode/utf8.acceptRanges", laid_unicode_utf8_acceptRanges), ("coffeehouse/ins.forms", laid_coffeehouse_ins_forms), ("unicode/utf8.first", laid_unicode_utf8_first)] }
def RightTellsSaid : Prop := rightTellsRow.holds Tryz.pinned (OpenSpec.ofChange rightTellsSpec)

/-- ITS FALSE NEIGHBOUR: 'it returns false'. Refute it at one input. -/
def rightTellsWrong : ChangeSpec := { name := "rightTells", fn := fun _ => fun
  | [d1, d2, d3, d4, d5, d6] => { results := [.lit (.bool false)], args := [d1, d2, d3, d4, d5, d6] }
  | _ => none }
def RightTellsWrongFalsely : Prop := rightTellsRow.holds Tryz.pinned (OpenSpec.ofChange rightTellsWrong)

/-- 'coffeehouselaw2.VtabPrefix': WHATEVER THE INPUT: true; the input reads as it did. -/
def vtabPrefixSpec : ChangeSpec := { name := "vtabPrefix", fn := fun _ => fun
  | [d1, d2] => { results := [.lit (.bool true)], args := [d1, d2] }
  | _ => none }
def vtabPrefixRow : OpenClaim := { program := "ytpjkpmmjehnahaagreatdoor", sum := "a4c3096ce6e803ffb39855593fe24994aaf878abfc1e51edc4a2e142398fc34e", func := "coffeehouse/coffeehouselaw2.VtabPrefix", spec := "vtabPrefix", inPlace := ["internal/bytealg.IndexByteString", "internal/bytealg.IndexString"], unfollowed := true, recurses := true, named := ["unicode/utf8.first", "unicode/utf8.acceptRanges", "coffeehouse/ins.forms", "internal/bytealg.MaxLen"], apart := false, laid := [("unicode/utf8.acceptRanges", laid_unicode_utf8_acceptRanges), ("coffeehouse/ins.forms", laid_coffeehouse_ins_forms), ("unicode/utf8.first", laid_unicode_utf8_first)] }
def VtabPrefixSaid : Prop := vtabPrefixRow.holds Tryz.pinned (OpenSpec.ofChange vtabPrefixSpec)

/-- ITS FALSE NEIGHBOUR: 'it returns false'. Refute it at one input. -/
def vtabPrefixWrong : ChangeSpec := { name := "vtabPrefix", fn := fun _ => fun
  | [d1, d2] => { results := [.lit (.bool false)], args := [d1, d2] }
  | _ => none }
def VtabPrefixWrongFalsely : Prop := vtabPrefixRow.holds Tryz.pinned (OpenSpec.ofChange vtabPrefixWrong)

/-- 'coffeehouselaw2.FindTells': WHATEVER THE INPUT: true; the input reads as it did. -/
def findTellsSpec : ChangeSpec := { name := "findTells", fn := fun _ => fun
  | [d1, d2, d3, d4] => { results := [.lit (.bool true)], args := [d1, d2, d3, d4] }
  | _ => none }
def findTellsRow : OpenClaim := { program := "ytpjkpmmjehnahaagreatdoor", sum := "a4c3096ce6e803ffb39855593fe24994aaf878abfc1e51edc4a2e142398fc34e", func := "coffeehouse/coffeehouselaw2.FindTells", spec := "findTells", inPlace := ["internal/bytealg.IndexByteString", "internal/bytealg.IndexString"], unfollowed := true, recurses := true, named := ["unicode/utf8.first", "unicode/utf8.acceptRanges", "coffeehouse/ins.forms", "internal/bytealg.MaxLen"], apart := false, laid := [("unicode/utf8.acceptRanges", laid_unicode_utf8_acceptRanges), ("coffeehouse/ins.forms", laid_coffeehouse_ins_forms), ("unicode/utf8.first", laid_unicode_utf8_first)] }
def FindTellsSaid : Prop := findTellsRow.holds Tryz.pinned (OpenSpec.ofChange findTellsSpec)

/-- ITS FALSE NEIGHBOUR: 'it returns false'. Refute it at one input. -/
def findTellsWrong : ChangeSpec := { name := "findTells", fn := fun _ => fun
  | [d1, d2, d3, d4] => { results := [.lit (.bool false)], args := [d1, d2, d3, d4] }
  | _ => none }
def FindTellsWrongFalsely : Prop := findTellsRow.holds Tryz.pinned (OpenSpec.ofChange findTellsWrong)

/-- 'coffeehouselaw2.LayTells': WHATEVER THE INPUT: true; the input reads as it did. -/
def layTellsSpec : ChangeSpec := { name := "layTells", fn := fun _ => fun
  | [d1, d2, d3] => { results := [.lit (.bool true)], args := [d1, d2, d3] }
  | _ => none }
def layTellsRow : OpenClaim := { program := "ytpjkpmmjehnahaagreatdoor", sum := "a4c3096ce6e803ffb39855593fe24994aaf878abfc1e51edc4a2e142398fc34e", func := "coffeehouse/coffeehouselaw2.LayTells", spec := "layTells", inPlace := ["internal/bytealg.IndexByteString", "internal/bytealg.IndexString"], unfollowed := true, recurses := true, named := ["unicode/utf8.first", "unicode/utf8.acceptRanges", "coffeehouse/ins.forms", "internal/bytealg.MaxLen"], apart := false, laid := [("unicode/utf8.acceptRanges", laid_unicode_utf8_acceptRanges), ("coffeehouse/ins.forms", laid_coffeehouse_ins_forms), ("unicode/utf8.first", laid_unicode_utf8_first)] }
def LayTellsSaid : Prop := layTellsRow.holds Tryz.pinned (OpenSpec.ofChange layTellsSpec)

/-- ITS FALSE NEIGHBOUR: 'it returns false'. Refute it at one input. -/
def layTellsWrong : ChangeSpec := { name := "layTells", fn := fun _ => fun
  | [d1, d2, d3] => { results := [.lit (.bool false)], args := [d1, d2, d3] }
  | _ => none }
def LayTellsWrongFalsely : Prop := layTellsRow.holds Tryz.pinned (OpenSpec.ofChange layTellsWrong)

/-- 'coffeehouselaw2.SubTells': WHATEVER THE INPUT: true; the input reads as it did. -/
def subTellsSpec : ChangeSpec := { name := "subTells", fn := fun _ => fun
  | [d1, d2, d3] => { results := [.lit (.bool true)], args := [d1, d2, d3] }
  | _ => none }
def subTellsRow : OpenClaim := { program := "ytpjkpmmjehnahaagreatdoor", sum := "a4c3096ce6e803ffb39855593fe24994aaf878abfc1e51edc4a2e142398fc34e", func := "coffeehouse/coffeehouselaw2.SubTells", spec := "subTells", inPlace := ["internal/bytealg.IndexByteString", "internal/bytealg.IndexString"], unfollowed := true, recurses := true, named := ["unicode/utf8.first", "unicode/utf8.acceptRanges", "coffeehouse/ins.forms", "internal/bytealg.MaxLen"], apart := false, laid := [("unicode/utf8.acceptRanges", laid_unicode_utf8_acceptRanges), ("coffeehouse/ins.forms", laid_coffeehouse_ins_forms), ("unicode/utf8.first", laid_unicode_utf8_first)] }
def SubTellsSaid : Prop := subTellsRow.holds Tryz.pinned (OpenSpec.ofChange subTellsSpec)

/-- ITS FALSE NEIGHBOUR: 'it returns false'. Refute it at one input. -/
def subTellsWrong : ChangeSpec := { name := "subTells", fn := fun _ => fun
  | [d1, d2, d3] => { results := [.lit (.bool false)], args := [d1, d2, d3] }
  | _ => none }
def SubTellsWrongFalsely : Prop := subTellsRow.holds Tryz.pinned (OpenSpec.ofChange subTellsWrong)

/-- 'coffeehouselaw2.SubOrder': WHATEVER THE INPUT: true; the input reads as it did. -/
def subOrderSpec : ChangeSpec := { name := "subOrder", fn := fun _ => fun
  | [d1, d2, d3, d4] => { results := [.lit (.bool true)], args := [d1, d2, d3, d4] }
  | _ => none }
def subOrderRow : OpenClaim := { program := "ytpjkpmmjehnahaagreatdoor", sum := "a4c3096ce6e803ffb39855593fe24994aaf878abfc1e51edc4a2e142398fc34e", func := "coffeehouse/coffeehouselaw2.SubOrder", spec := "subOrder", inPlace := ["internal/bytealg.IndexByteString", "internal/bytealg.IndexString"], unfollowed := true, recurses := true, named := ["unicode/utf8.first", "unicode/utf8.acceptRanges", "coffeehouse/ins.forms", "internal/bytealg.MaxLen"], apart := false, laid := [("unicode/utf8.acceptRanges", laid_unicode_utf8_acceptRanges), ("coffeehouse/ins.forms", laid_coffeehouse_ins_forms), ("unicode/utf8.first", laid_unicode_utf8_first)] }
def SubOrderSaid : Prop := subOrderRow.holds Tryz.pinned (OpenSpec.ofChange subOrderSpec)

/-- ITS FALSE NEIGHBOUR: 'it returns false'. Refute it at one input. -/
def subOrderWrong : ChangeSpec := { name := "subOrder", fn := fun _ => fun
  | [d1, d2, d3, d4] => { results := [.lit (.bool false)], args := [d1, d2, d3, d4] }
  | _ => none }
def SubOrderWrongFalsely : Prop := subOrderRow.holds Tryz.pinned (OpenSpec.ofChange subOrderWrong)

/-- 'coffeehouselaw2.JoinLattice': WHATEVER THE INPUT: true; the input reads as it did. -/
def joinLatticeSpec : ChangeSpec := { name := "joinLattice", fn := fun _ => fun
  | [d1, d2, d3, d4] => { results := [.lit (.bool true)], args := [d1, d2, d3, d4] }
  | _ => none }
def joinLatticeRow : OpenClaim := { program := "ytpjkpmmjehnahaagreatdoor", sum := "a4c3096ce6e803ffb39855593fe24994aaf878abfc1e51edc4a2e142398fc34e", func := "coffeehouse/coffeehouselaw2.JoinLattice", spec := "joinLattice", inPlace := ["internal/bytealg.IndexByteString", "internal/bytealg.IndexString"], unfollowed := true, recurses := true, named := ["unicode/utf8.first", "unicode/utf8.acceptRanges", "coffeehouse/ins.forms", "internal/bytealg.MaxLen"], apart := false, laid := [("unicode/utf8.acceptRanges", laid_unicode_utf8_acceptRanges), ("coffeehouse/ins.forms", laid_coffeehouse_ins_forms), ("unicode/utf8.first", laid_unicode_utf8_first)] }
def JoinLatticeSaid : Prop := joinLatticeRow.holds Tryz.pinned (OpenSpec.ofChange joinLatticeSpec)

/-- ITS FALSE NEIGHBOUR: 'it returns false'. Refute it at one input. -/
def joinLatticeWrong : ChangeSpec := { name := "joinLattice", fn := fun _ => fun
  | [d1, d2, d3, d4] => { results := [.lit (.bool false)], args := [d1, d2, d3, d4] }
  | _ => none }
def JoinLatticeWrongFalsely : Prop := joinLatticeRow.holds Tryz.pinned (OpenSpec.ofChange joinLatticeWrong)

/-- 'coffeehouselaw2.JoinTells': WHATEVER THE INPUT: true; the input reads as it did. -/
def joinTellsSpec : ChangeSpec := { name := "joinTells", fn := fun _ => fun
  | [d1, d2, d3] => { results := [.lit (.bool true)], args := [d1, d2, d3] }
  | _ => none }
def joinTellsRow : OpenClaim := { program := "ytpjkpmmjehnahaagreatdoor", sum := "a4c3096ce6e803ffb39855593fe24994aaf878abfc1e51edc4a2e142398fc34e", func := "coffeehouse/coffeehouselaw2.JoinTells", spec := "joinTells", inPlace := ["internal/bytealg.IndexByteString", "internal/bytealg.IndexString"], unfollowed := true, recurses := true, named := ["unicode/utf8.first", "unicode/utf8.acceptRanges", "coffeehouse/ins.forms", "internal/bytealg.MaxLen"], apart := false, laid := [("unicode/utf8.acceptRanges", laid_unicode_utf8_acceptRanges), ("coffeehouse/ins.forms", laid_coffeehouse_ins_forms), ("unicode/utf8.first", laid_unicode_utf8_first)] }
def JoinTellsSaid : Prop := joinTellsRow.holds Tryz.pinned (OpenSpec.ofChange joinTellsSpec)

/-- ITS FALSE NEIGHBOUR: 'it returns false'. Refute it at one input. -/
def joinTellsWrong : ChangeSpec := { name := "joinTells", fn := fun _ => fun
  | [d1, d2, d3] => { results := [.lit (.bool false)], args := [d1, d2, d3] }
  | _ => none }
def JoinTellsWrongFalsely : Prop := joinTellsRow.holds Tryz.pinned (OpenSpec.ofChange joinTellsWrong)

/-- 'coffeehouselaw2.VtabTells': WHATEVER THE INPUT: true; the input reads as it did. -/
def vtabTellsSpec : ChangeSpec := { name := "vtabTells", fn := fun _ => fun
  | [d1, d2, d3, d4] => { results := [.lit (.bool true)], args := [d1, d2, d3, d4] }
  | _ => none }
def vtabTellsRow : OpenClaim := { program := "ytpjkpmmjehnahaagreatdoor", sum := "a4c3096ce6e803ffb39855593fe24994aaf878abfc1e51edc4a2e142398fc34e", func := "coffeehouse/coffeehouselaw2.VtabTells", spec := "vtabTells", inPlace := ["internal/bytealg.IndexByteString", "internal/bytealg.IndexString"], unfollowed := true, recurses := true, named := ["unicode/utf8.first", "unicode/utf8.acceptRanges", "coffeehouse/ins.forms", "internal/bytealg.MaxLen"], apart := false, laid := [("unicode/utf8.acceptRanges", laid_unicode_utf8_acceptRanges), ("coffeehouse/ins.forms", laid_coffeehouse_ins_forms), ("unicode/utf8.first", laid_unicode_utf8_first)] }
def VtabTellsSaid : Prop := vtabTellsRow.holds Tryz.pinned (OpenSpec.ofChange vtabTellsSpec)

/-- ITS FALSE NEIGHBOUR: 'it returns false'. Refute it at one input. -/
def vtabTellsWrong : ChangeSpec := { name := "vtabTells", fn := fun _ => fun
  | [d1, d2, d3, d4] => { results := [.lit (.bool false)], args := [d1, d2, d3, d4] }
  | _ => none }
def VtabTellsWrongFalsely : Prop := vtabTellsRow.holds Tryz.pinned (OpenSpec.ofChange vtabTellsWrong)

/-- 'coffeehouselaw2.JoinAbove': WHATEVER THE INPUT: true; the input reads as it did. -/
def joinAboveSpec : ChangeSpec := { name := "joinAbove", fn := fun _ => fun
  | [d1, d2, d3, d4] => { results := [.lit (.bool true)], args := [d1, d2, d3, d4] }
  | _ => none }
def joinAboveRow : OpenClaim := { program := "ytpjkpmmjehnahaagreatdoor", sum := "a4c3096ce6e803ffb39855593fe24994aaf878abfc1e51edc4a2e142398fc34e", func := "coffeehouse/coffeehouselaw2.JoinAbove", spec := "joinAbove", inPlace := ["internal/bytealg.IndexByteString", "internal/bytealg.IndexString"], unfollowed := true, recurses := true, named := ["unicode/utf8.first", "unicode/utf8.acceptRanges", "coffeehouse/ins.forms", "internal/bytealg.MaxLen"], apart := false, laid := [("unicode/utf8.acceptRanges", laid_unicode_utf8_acceptRanges), ("coffeehouse/ins.forms", laid_coffeehouse_ins_forms), ("unicode/utf8.first", laid_unicode_utf8_first)] }
def JoinAboveSaid : Prop := joinAboveRow.holds Tryz.pinned (OpenSpec.ofChange joinAboveSpec)

/-- ITS FALSE NEIGHBOUR: 'it returns false'. Refute it at one input. -/
def joinAboveWrong : ChangeSpec := { name := "joinAbove", fn := fun _ => fun
  | [d1, d2, d3, d4] => { results := [.lit (.bool false)], args := [d1, d2, d3, d4] }
  | _ => none }
def JoinAboveWrongFalsely : Prop := joinAboveRow.holds Tryz.pinned (OpenSpec.ofChange joinAboveWrong)

/- THE SECOND FORM. 'bulk': how many values and letters a reading holds, each counted each time it is reached (what is shared counts as often as it is met; a slice's spare places count too). A statement '..UptoSaid' is the law's where the arguments, and the package variables that the reading takes, are together of bulk at most 1048576: NARROWER than '..Said'. Prove '..Said' where nothing that the law and all that it calls make is longer than what came in: it says more and counts as full. Else prove '..UptoSaid'. A law counts once. -/
mutual
def uptoBulk {H : Type} : DataW H → Nat
  | .lit (.string bytes) => bytes.length + 1
  | .lit _ => 1
  | .nil => 1
  | .ptr d => uptoBulk d + 1
  | .slice elems spare => uptoBulkAll elems + uptoBulkAll spare + 1
  | .agg parts => uptoBulkAll parts + 1
  | .iface _ d => uptoBulk d + 1
  | .map entries => uptoBulkEntries entries + 1
  | .held _ => 1
def uptoBulkAll {H : Type} : List (DataW H) → Nat
  | [] => 0
  | d :: r => uptoBulk d + uptoBulkAll r
def uptoBulkEntries {H : Type} : List (Lit × DataW H) → Nat
  | [] => 0
  | x :: r => uptoBulkEntry x + uptoBulkEntries r
def uptoBulkEntry {H : Type} : Lit × DataW H → Nat
  | (.string bytes, d) => bytes.length + uptoBulk d + 1
  | (_, d) => uptoBulk d + 1
 end
def uptoSmall : (H : Type) → List (DataW H) → Bool := fun _ ds => decide (uptoBulkAll ds ≤ 1048576)
def OpenSpec.upto (s : _root_.Go.ChangeSpec) : _root_.Go.OpenSpec := { _root_.Go.OpenSpec.ofChange s with cond := some uptoSmall }

/-- 'coffeehouselaw2.RightTells', WHERE WHAT IT READS IS OF BULK AT MOST 1048576: true; the input reads as it did. -/
def rightTellsUptoRow : OpenClaim := { program := "ytpjkpmmjehnahaagreatdoor", sum := "a4c3096ce6e803ffb39855593fe24994aaf878abfc1e51edc4a2e142398fc34e", func := "coffeehouse/coffeehouselaw2.RightTells", spec := "rightTells", inPlace := ["internal/bytealg.IndexByteString", "internal/bytealg.IndexString"], unfollowed := true, recurses := true, named := ["unicode/utf8.first", "unicode/utf8.acceptRanges", "coffeehouse/ins.forms", "internal/bytealg.MaxLen"], apart := false, laid := [("unicode/utf8.acceptRanges", laid_unicode_utf8_acceptRanges), ("coffeehouse/ins.forms", laid_coffeehouse_ins_forms), ("unicode/utf8.first", laid_unicode_utf8_first)], narrowed := true }
def RightTellsUptoSaid : Prop := rightTellsUptoRow.holds Tryz.pinned (OpenSpec.upto rightTellsSpec)

/-- 'coffeehouselaw2.VtabPrefix', WHERE WHAT IT READS IS OF BULK AT MOST 1048576: true; the input reads as it did. -/
def vtabPrefixUptoRow : OpenClaim := { program := "ytpjkpmmjehnahaagreatdoor", sum := "a4c3096ce6e803ffb39855593fe24994aaf878abfc1e51edc4a2e142398fc34e", func := "coffeehouse/coffeehouselaw2.VtabPrefix", spec := "vtabPrefix", inPlace := ["internal/bytealg.IndexByteString", "internal/bytealg.IndexString"], unfollowed := true, recurses := true, named := ["unicode/utf8.first", "unicode/utf8.acceptRanges", "coffeehouse/ins.forms", "internal/bytealg.MaxLen"], apart := false, laid := [("unicode/utf8.acceptRanges", laid_unicode_utf8_acceptRanges), ("coffeehouse/ins.forms", laid_coffeehouse_ins_forms), ("unicode/utf8.first", laid_unicode_utf8_first)], narrowed := true }
def VtabPrefixUptoSaid : Prop := vtabPrefixUptoRow.holds Tryz.pinned (OpenSpec.upto vtabPrefixSpec)

/-- 'coffeehouselaw2.FindTells', WHERE WHAT IT READS IS OF BULK AT MOST 1048576: true; the input reads as it did. -/
def findTellsUptoRow : OpenClaim := { program := "ytpjkpmmjehnahaagreatdoor", sum := "a4c3096ce6e803ffb39855593fe24994aaf878abfc1e51edc4a2e142398fc34e", func := "coffeehouse/coffeehouselaw2.FindTells", spec := "findTells", inPlace := ["internal/bytealg.IndexByteString", "internal/bytealg.IndexString"], unfollowed := true, recurses := true, named := ["unicode/utf8.first", "unicode/utf8.acceptRanges", "coffeehouse/ins.forms", "internal/bytealg.MaxLen"], apart := false, laid := [("unicode/utf8.acceptRanges", laid_unicode_utf8_acceptRanges), ("coffeehouse/ins.forms", laid_coffeehouse_ins_forms), ("unicode/utf8.first", laid_unicode_utf8_first)], narrowed := true }
def FindTellsUptoSaid : Prop := findTellsUptoRow.holds Tryz.pinned (OpenSpec.upto findTellsSpec)

/-- 'coffeehouselaw2.LayTells', WHERE WHAT IT READS IS OF BULK AT MOST 1048576: true; the input reads as it did. -/
def layTellsUptoRow : OpenClaim := { program := "ytpjkpmmjehnahaagreatdoor", sum := "a4c3096ce6e803ffb39855593fe24994aaf878abfc1e51edc4a2e142398fc34e", func := "coffeehouse/coffeehouselaw2.LayTells", spec := "layTells", inPlace := ["internal/bytealg.IndexByteString", "internal/bytealg.IndexString"], unfollowed := true, recurses := true, named := ["unicode/utf8.first", "unicode/utf8.acceptRanges", "coffeehouse/ins.forms", "internal/bytealg.MaxLen"], apart := false, laid := [("unicode/utf8.acceptRanges", laid_unicode_utf8_acceptRanges), ("coffeehouse/ins.forms", laid_coffeehouse_ins_forms), ("unicode/utf8.first", laid_unicode_utf8_first)], narrowed := true }
def LayTellsUptoSaid : Prop := layTellsUptoRow.holds Tryz.pinned (OpenSpec.upto layTellsSpec)

/-- 'coffeehouselaw2.SubTells', WHERE WHAT IT READS IS OF BULK AT MOST 1048576: true; the input reads as it did. -/
def subTellsUptoRow : OpenClaim := { program := "ytpjkpmmjehnahaagreatdoor", sum := "a4c3096ce6e803ffb39855593fe24994aaf878abfc1e51edc4a2e142398fc34e", func := "coffeehouse/coffeehouselaw2.SubTells", spec := "subTells", inPlace := ["internal/bytealg.IndexByteString", "internal/bytealg.IndexString"], unfollowed := true, recurses := true, named := ["unicode/utf8.first", "unicode/utf8.acceptRanges", "coffeehouse/ins.forms", "internal/bytealg.MaxLen"], apart := false, laid := [("unicode/utf8.acceptRanges", laid_unicode_utf8_acceptRanges), ("coffeehouse/ins.forms", laid_coffeehouse_ins_forms), ("unicode/utf8.first", laid_unicode_utf8_first)], narrowed := true }
def SubTellsUptoSaid : Prop := subTellsUptoRow.holds Tryz.pinned (OpenSpec.upto subTellsSpec)

/-- 'coffeehouselaw2.SubOrder', WHERE WHAT IT READS IS OF BULK AT MOST 1048576: true; the input reads as it did. -/
def subOrderUptoRow : OpenClaim := { program := "ytpjkpmmjehnahaagreatdoor", sum := "a4c3096ce6e803ffb39855593fe24994aaf878abfc1e51edc4a2e142398fc34e", func := "coffeehouse/coffeehouselaw2.SubOrder", spec := "subOrder", inPlace := ["internal/bytealg.IndexByteString", "internal/bytealg.IndexString"], unfollowed := true, recurses := true, named := ["unicode/utf8.first", "unicode/utf8.acceptRanges", "coffeehouse/ins.forms", "internal/bytealg.MaxLen"], apart := false, laid := [("unicode/utf8.acceptRanges", laid_unicode_utf8_acceptRanges), ("coffeehouse/ins.forms", laid_coffeehouse_ins_forms), ("unicode/utf8.first", laid_unicode_utf8_first)], narrowed := true }
def SubOrderUptoSaid : Prop := subOrderUptoRow.holds Tryz.pinned (OpenSpec.upto subOrderSpec)

/-- 'coffeehouselaw2.JoinLattice', WHERE WHAT IT READS IS OF BULK AT MOST 1048576: true; the input reads as it did. -/
def joinLatticeUptoRow : OpenClaim := { program := "ytpjkpmmjehnahaagreatdoor", sum := "a4c3096ce6e803ffb39855593fe24994aaf878abfc1e51edc4a2e142398fc34e", func := "coffeehouse/coffeehouselaw2.JoinLattice", spec := "joinLattice", inPlace := ["internal/bytealg.IndexByteString", "internal/bytealg.IndexString"], unfollowed := true, recurses := true, named := ["unicode/utf8.first", "unicode/utf8.acceptRanges", "coffeehouse/ins.forms", "internal/bytealg.MaxLen"], apart := false, laid := [("unicode/utf8.acceptRanges", laid_unicode_utf8_acceptRanges), ("coffeehouse/ins.forms", laid_coffeehouse_ins_forms), ("unicode/utf8.first", laid_unicode_utf8_first)], narrowed := true }
def JoinLatticeUptoSaid : Prop := joinLatticeUptoRow.holds Tryz.pinned (OpenSpec.upto joinLatticeSpec)

/-- 'coffeehouselaw2.JoinTells', WHERE WHAT IT READS IS OF BULK AT MOST 1048576: true; the input reads as it did. -/
def joinTellsUptoRow : OpenClaim := { program := "ytpjkpmmjehnahaagreatdoor", sum := "a4c3096ce6e803ffb39855593fe24994aaf878abfc1e51edc4a2e142398fc34e", func := "coffeehouse/coffeehouselaw2.JoinTells", spec := "joinTells", inPlace := ["internal/bytealg.IndexByteString", "internal/bytealg.IndexString"], unfollowed := true, recurses := true, named := ["unicode/utf8.first", "unicode/utf8.acceptRanges", "coffeehouse/ins.forms", "internal/bytealg.MaxLen"], apart := false, laid := [("unicode/utf8.acceptRanges", laid_unicode_utf8_acceptRanges), ("coffeehouse/ins.forms", laid_coffeehouse_ins_forms), ("unicode/utf8.first", laid_unicode_utf8_first)], narrowed := true }
def JoinTellsUptoSaid : Prop := joinTellsUptoRow.holds Tryz.pinned (OpenSpec.upto joinTellsSpec)

/-- 'coffeehouselaw2.VtabTells', WHERE WHAT IT READS IS OF BULK AT MOST 1048576: true; the input reads as it did. -/
def vtabTellsUptoRow : OpenClaim := { program := "ytpjkpmmjehnahaagreatdoor", sum := "a4c3096ce6e803ffb39855593fe24994aaf878abfc1e51edc4a2e142398fc34e", func := "coffeehouse/coffeehouselaw2.VtabTells", spec := "vtabTells", inPlace := ["internal/bytealg.IndexByteString", "internal/bytealg.IndexString"], unfollowed := true, recurses := true, named := ["unicode/utf8.first", "unicode/utf8.acceptRanges", "coffeehouse/ins.forms", "internal/bytealg.MaxLen"], apart := false, laid := [("unicode/utf8.acceptRanges", laid_unicode_utf8_acceptRanges), ("coffeehouse/ins.forms", laid_coffeehouse_ins_forms), ("unicode/utf8.first", laid_unicode_utf8_first)], narrowed := true }
def VtabTellsUptoSaid : Prop := vtabTellsUptoRow.holds Tryz.pinned (OpenSpec.upto vtabTellsSpec)

/-- 'coffeehouselaw2.JoinAbove', WHERE WHAT IT READS IS OF BULK AT MOST 1048576: true; the input reads as it did. -/
def joinAboveUptoRow : OpenClaim := { program := "ytpjkpmmjehnahaagreatdoor", sum := "a4c3096ce6e803ffb39855593fe24994aaf878abfc1e51edc4a2e142398fc34e", func := "coffeehouse/coffeehouselaw2.JoinAbove", spec := "joinAbove", inPlace := ["internal/bytealg.IndexByteString", "internal/bytealg.IndexString"], unfollowed := true, recurses := true, named := ["unicode/utf8.first", "unicode/utf8.acceptRanges", "coffeehouse/ins.forms", "internal/bytealg.MaxLen"], apart := false, laid := [("unicode/utf8.acceptRanges", laid_unicode_utf8_acceptRanges), ("coffeehouse/ins.forms", laid_coffeehouse_ins_forms), ("unicode/utf8.first", laid_unicode_utf8_first)], narrowed := true }
def JoinAboveUptoSaid : Prop := joinAboveUptoRow.holds Tryz.pinned (OpenSpec.upto joinAboveSpec)

end Rows
end Go.Proofs.YtpjkpmmjehnahaaGreatDoor
