/-
  No cell of these rows narrows 'for every input' (looked for: loops, veiled, ifaces, maps, wideKeys, modest, calm, conditions, laid).
  DERIVED. THE GIVEN ROWS OF THIS SEAT. 11 by the template 'for every input the law returns true; each argument reads behind the call as it read before'; 0 by the template 'total and deterministic' (their statements: YtdppjknfhggpbaaTotals.lean).
  GIVEN WITH THE SEED: the statements are not yours to turn. If you find one false, say at which input.
  Laid BY PROGRAM, IN A SANDBOX (cutbox-rows.mjs): the forced cells as the released guide's own fill.sh prints them over the translation 49eec96e838cb83d… (all of the seat's roots in one cut). By AI agents, Wed Nov 11 2026. No macro, syntax, notation, axiom, sorry.
-/
import Derived.Test.YtdppjknfhggpbaaChecked
import GoSem.Claim
import GoSem.ClaimJoined
import GoSem.ClaimMapViews
import Derived.JoinedTies
import Derived.KernelRfl
namespace Go.Proofs.Ytdppjknfhggpbaa
/- THE CELL 'sum', in the pinned program and in every row, IS THE sha256 OF THE DUMP (.gsa) THAT YtdppjknfhggpbaaProg.lean LOADS. Nothing in Lean hashes anything: it is a label: what it is worth is what the hold of that sum in a sandbox is worth. -/
noncomputable def Try.pinned : Pinned := { name := "ytdppjknfhggpbaa", sum := "49eec96e838cb83d6f2d2f5b7118ec3d7399a25c71bc61daf3a2aaa38facf727", checked := Try.checked }
namespace Rows
def none {H : Type} : Left H := { results := [], args := [] }

/-- 'ratlinelaw05.FrameTells': WHATEVER THE INPUT: true; the input reads as it did. -/
def frameTellsSpec : ChangeSpec := { name := "frameTells", fn := fun _ => fun
  | [d1, d2] => { results := [.lit (.bool true)], args := [d1, d2] }
  | _ => none }
def frameTellsRow : OpenClaim := { program := "ytdppjknfhggpbaa", sum := "49eec96e838cb83d6f2d2f5b7118ec3d7399a25c71bc61daf3a2aaa38facf727", func := "ratline/ratlinelaw05.FrameTells", spec := "frameTells", apart := false }
def FrameTellsSaid : Prop := frameTellsRow.holds Try.pinned (OpenSpec.ofChange frameTellsSpec)

/-- ITS FALSE NEIGHBOUR: 'it returns false'. Refute it at one input. -/
def frameTellsWrong : ChangeSpec := { name := "frameTells", fn := fun _ => fun
  | [d1, d2] => { results := [.lit (.bool false)], args := [d1, d2] }
  | _ => none }
def FrameTellsWrongFalsely : Prop := frameTellsRow.holds Try.pinned (OpenSpec.ofChange frameTellsWrong)

/-- 'ratlinelaw05.FrameBent': WHATEVER THE INPUT: true; the input reads as it did. -/
def frameBentSpec : ChangeSpec := { name := "frameBent", fn := fun _ => fun
  | [d1, d2, d3, d4] => { results := [.lit (.bool true)], args := [d1, d2, d3, d4] }
  | _ => none }
def frameBentRow : OpenClaim := { program := "ytdppjknfhggpbaa", sum := "49eec96e838cb83d6f2d2f5b7118ec3d7399a25c71bc61daf3a2aaa38facf727", func := "ratline/ratlinelaw05.FrameBent", spec := "frameBent", apart := false }
def FrameBentSaid : Prop := frameBentRow.holds Try.pinned (OpenSpec.ofChange frameBentSpec)

/-- ITS FALSE NEIGHBOUR: 'it returns false'. Refute it at one input. -/
def frameBentWrong : ChangeSpec := { name := "frameBent", fn := fun _ => fun
  | [d1, d2, d3, d4] => { results := [.lit (.bool false)], args := [d1, d2, d3, d4] }
  | _ => none }
def FrameBentWrongFalsely : Prop := frameBentRow.holds Try.pinned (OpenSpec.ofChange frameBentWrong)

/-- 'ratlinelaw05.FrameCut': WHATEVER THE INPUT: true; the input reads as it did. -/
def frameCutSpec : ChangeSpec := { name := "frameCut", fn := fun _ => fun
  | [d1, d2, d3] => { results := [.lit (.bool true)], args := [d1, d2, d3] }
  | _ => none }
def frameCutRow : OpenClaim := { program := "ytdppjknfhggpbaa", sum := "49eec96e838cb83d6f2d2f5b7118ec3d7399a25c71bc61daf3a2aaa38facf727", func := "ratline/ratlinelaw05.FrameCut", spec := "frameCut", apart := false }
def FrameCutSaid : Prop := frameCutRow.holds Try.pinned (OpenSpec.ofChange frameCutSpec)

/-- ITS FALSE NEIGHBOUR: 'it returns false'. Refute it at one input. -/
def frameCutWrong : ChangeSpec := { name := "frameCut", fn := fun _ => fun
  | [d1, d2, d3] => { results := [.lit (.bool false)], args := [d1, d2, d3] }
  | _ => none }
def FrameCutWrongFalsely : Prop := frameCutRow.holds Try.pinned (OpenSpec.ofChange frameCutWrong)

/-- 'ratlinelaw05.FrameParts': WHATEVER THE INPUT: true; the input reads as it did. -/
def framePartsSpec : ChangeSpec := { name := "frameParts", fn := fun _ => fun
  | [d] => { results := [.lit (.bool true)], args := [d] }
  | _ => none }
def framePartsRow : OpenClaim := { program := "ytdppjknfhggpbaa", sum := "49eec96e838cb83d6f2d2f5b7118ec3d7399a25c71bc61daf3a2aaa38facf727", func := "ratline/ratlinelaw05.FrameParts", spec := "frameParts", apart := false }
def FramePartsSaid : Prop := framePartsRow.holds Try.pinned (OpenSpec.ofChange framePartsSpec)

/-- ITS FALSE NEIGHBOUR: 'it returns false'. Refute it at one input. -/
def framePartsWrong : ChangeSpec := { name := "frameParts", fn := fun _ => fun
  | [d] => { results := [.lit (.bool false)], args := [d] }
  | _ => none }
def FramePartsWrongFalsely : Prop := framePartsRow.holds Try.pinned (OpenSpec.ofChange framePartsWrong)

/-- 'ratlinelaw05.FrameSums': WHATEVER THE INPUT: true; the input reads as it did. -/
def frameSumsSpec : ChangeSpec := { name := "frameSums", fn := fun _ => fun
  | [d1, d2, d3, d4, d5] => { results := [.lit (.bool true)], args := [d1, d2, d3, d4, d5] }
  | _ => none }
def frameSumsRow : OpenClaim := { program := "ytdppjknfhggpbaa", sum := "49eec96e838cb83d6f2d2f5b7118ec3d7399a25c71bc61daf3a2aaa38facf727", func := "ratline/ratlinelaw05.FrameSums", spec := "frameSums", apart := false }
def FrameSumsSaid : Prop := frameSumsRow.holds Try.pinned (OpenSpec.ofChange frameSumsSpec)

/-- ITS FALSE NEIGHBOUR: 'it returns false'. Refute it at one input. -/
def frameSumsWrong : ChangeSpec := { name := "frameSums", fn := fun _ => fun
  | [d1, d2, d3, d4, d5] => { results := [.lit (.bool false)], args := [d1, d2, d3, d4, d5] }
  | _ => none }
def FrameSumsWrongFalsely : Prop := frameSumsRow.holds Try.pinned (OpenSpec.ofChange frameSumsWrong)

/-- 'ratlinelaw05.FrameApart': WHATEVER THE INPUT: true; the input reads as it did. -/
def frameApartSpec : ChangeSpec := { name := "frameApart", fn := fun _ => fun
  | [d1, d2] => { results := [.lit (.bool true)], args := [d1, d2] }
  | _ => none }
def frameApartRow : OpenClaim := { program := "ytdppjknfhggpbaa", sum := "49eec96e838cb83d6f2d2f5b7118ec3d7399a25c71bc61daf3a2aaa38facf727", func := "ratline/ratlinelaw05.FrameApart", spec := "frameApart", apart := false }
def FrameApartSaid : Prop := frameApartRow.holds Try.pinned (OpenSpec.ofChange frameApartSpec)

/-- ITS FALSE NEIGHBOUR: 'it returns false'. Refute it at one input. -/
def frameApartWrong : ChangeSpec := { name := "frameApart", fn := fun _ => fun
  | [d1, d2] => { results := [.lit (.bool false)], args := [d1, d2] }
  | _ => none }
def FrameApartWrongFalsely : Prop := frameApartRow.holds Try.pinned (OpenSpec.ofChange frameApartWrong)

/-- 'ratlinelaw02.NumsShort': WHATEVER THE INPUT: true; the input reads as it did. -/
def numsShortSpec : ChangeSpec := { name := "numsShort", fn := fun _ => fun
  | [d1, d2] => { results := [.lit (.bool true)], args := [d1, d2] }
  | _ => none }
def numsShortRow : OpenClaim := { program := "ytdppjknfhggpbaa", sum := "49eec96e838cb83d6f2d2f5b7118ec3d7399a25c71bc61daf3a2aaa38facf727", func := "ratline/ratlinelaw02.NumsShort", spec := "numsShort", unfollowed := true, recurses := true, apart := false }
def NumsShortSaid : Prop := numsShortRow.holds Try.pinned (OpenSpec.ofChange numsShortSpec)

/-- ITS FALSE NEIGHBOUR: 'it returns false'. Refute it at one input. -/
def numsShortWrong : ChangeSpec := { name := "numsShort", fn := fun _ => fun
  | [d1, d2] => { results := [.lit (.bool false)], args := [d1, d2] }
  | _ => none }
def NumsShortWrongFalsely : Prop := numsShortRow.holds Try.pinned (OpenSpec.ofChange numsShortWrong)

/-- 'ratlinelaw02.NumsTexts': WHATEVER THE INPUT: true; the input reads as it did. -/
def numsTextsSpec : ChangeSpec := { name := "numsTexts", fn := fun _ => fun
  | [d1, d2, d3] => { results := [.lit (.bool true)], args := [d1, d2, d3] }
  | _ => none }
def numsTextsRow : OpenClaim := { program := "ytdppjknfhggpbaa", sum := "49eec96e838cb83d6f2d2f5b7118ec3d7399a25c71bc61daf3a2aaa38facf727", func := "ratline/ratlinelaw02.NumsTexts", spec := "numsTexts", unfollowed := true, recurses := true, apart := false }
def NumsTextsSaid : Prop := numsTextsRow.holds Try.pinned (OpenSpec.ofChange numsTextsSpec)

/-- ITS FALSE NEIGHBOUR: 'it returns false'. Refute it at one input. -/
def numsTextsWrong : ChangeSpec := { name := "numsTexts", fn := fun _ => fun
  | [d1, d2, d3] => { results := [.lit (.bool false)], args := [d1, d2, d3] }
  | _ => none }
def NumsTextsWrongFalsely : Prop := numsTextsRow.holds Try.pinned (OpenSpec.ofChange numsTextsWrong)

/-- 'ratlinelaw02.NumsTells': WHATEVER THE INPUT: true; the input reads as it did. -/
def numsTellsSpec : ChangeSpec := { name := "numsTells", fn := fun _ => fun
  | [d1, d2, d3, d4] => { results := [.lit (.bool true)], args := [d1, d2, d3, d4] }
  | _ => none }
def numsTellsRow : OpenClaim := { program := "ytdppjknfhggpbaa", sum := "49eec96e838cb83d6f2d2f5b7118ec3d7399a25c71bc61daf3a2aaa38facf727", func := "ratline/ratlinelaw02.NumsTells", spec := "numsTells", unfollowed := true, recurses := true, apart := false }
def NumsTellsSaid : Prop := numsTellsRow.holds Try.pinned (OpenSpec.ofChange numsTellsSpec)

/-- ITS FALSE NEIGHBOUR: 'it returns false'. Refute it at one input. -/
def numsTellsWrong : ChangeSpec := { name := "numsTells", fn := fun _ => fun
  | [d1, d2, d3, d4] => { results := [.lit (.bool false)], args := [d1, d2, d3, d4] }
  | _ => none }
def NumsTellsWrongFalsely : Prop := numsTellsRow.holds Try.pinned (OpenSpec.ofChange numsTellsWrong)

/-- 'ratlinelaw02.NumsBack': WHATEVER THE INPUT: true; the input reads as it did. -/
def numsBackSpec : ChangeSpec := { name := "numsBack", fn := fun _ => fun
  | [d1, d2, d3, d4] => { results := [.lit (.bool true)], args := [d1, d2, d3, d4] }
  | _ => none }
def numsBackRow : OpenClaim := { program := "ytdppjknfhggpbaa", sum := "49eec96e838cb83d6f2d2f5b7118ec3d7399a25c71bc61daf3a2aaa38facf727", func := "ratline/ratlinelaw02.NumsBack", spec := "numsBack", unfollowed := true, recurses := true, apart := false }
def NumsBackSaid : Prop := numsBackRow.holds Try.pinned (OpenSpec.ofChange numsBackSpec)

/-- ITS FALSE NEIGHBOUR: 'it returns false'. Refute it at one input. -/
def numsBackWrong : ChangeSpec := { name := "numsBack", fn := fun _ => fun
  | [d1, d2, d3, d4] => { results := [.lit (.bool false)], args := [d1, d2, d3, d4] }
  | _ => none }
def NumsBackWrongFalsely : Prop := numsBackRow.holds Try.pinned (OpenSpec.ofChange numsBackWrong)

/-- 'ratlinelaw02.NumsApart': WHATEVER THE INPUT: true; the input reads as it did. -/
def numsApartSpec : ChangeSpec := { name := "numsApart", fn := fun _ => fun
  | [d1, d2, d3] => { results := [.lit (.bool true)], args := [d1, d2, d3] }
  | _ => none }
def numsApartRow : OpenClaim := { program := "ytdppjknfhggpbaa", sum := "49eec96e838cb83d6f2d2f5b7118ec3d7399a25c71bc61daf3a2aaa38facf727", func := "ratline/ratlinelaw02.NumsApart", spec := "numsApart", unfollowed := true, recurses := true, apart := false }
def NumsApartSaid : Prop := numsApartRow.holds Try.pinned (OpenSpec.ofChange numsApartSpec)

/-- ITS FALSE NEIGHBOUR: 'it returns false'. Refute it at one input. -/
def numsApartWrong : ChangeSpec := { name := "numsApart", fn := fun _ => fun
  | [d1, d2, d3] => { results := [.lit (.bool false)], args := [d1, d2, d3] }
  | _ => none }
def NumsApartWrongFalsely : Prop := numsApartRow.holds Try.pinned (OpenSpec.ofChange numsApartWrong)

/- THE SECOND FORM. 'bulk': how many values and letters a reading holds, each counted each time it is reached (what is shared counts as often as it is met; a slice's spare places count too). A statement '..UptoSaid' is the law's where the arguments, and the package variables that the reading takes, are together of bulk at most 1048576: NARROWER than '..Said'. Prove '..Said' where nothing that the law and all that it calls make is longer than what came in: it says more and counts as full. Else prove '..UptoSaid'. A law counts once. -/
mutual
def uptoBulk {H : Type} : DataW H → Nat
  | .lit (.string bytes) => bytes.length + 1
  | .lit _ => 1
  | .nil => 1
  | .ptr d => uptoBulk d + 1
  | .slice elems spare => uptoBulkAll elems + uptoBulkAll spare + 1
  | .agg parts => uptoBulkAll parts + 1
  | .iface _ d => uptoBulk d + 1
  | .map entries => uptoBulkEntries entries + 1
  | .held _ => 1
def uptoBulkAll {H : Type} : List (DataW H) → Nat
  | [] => 0
  | d :: r => uptoBulk d + uptoBulkAll r
def uptoBulkEntries {H : Type} : List (Lit × DataW H) → Nat
  | [] => 0
  | x :: r => uptoBulkEntry x + uptoBulkEntries r
def uptoBulkEntry {H : Type} : Lit × DataW H → Nat
  | (.string bytes, d) => bytes.length + uptoBulk d + 1
  | (_, d) => uptoBulk d + 1
 end
def uptoSmall : (H : Type) → List (DataW H) → Bool := fun _ ds => decide (uptoBulkAll ds ≤ 1048576)
def OpenSpec.upto (s : _root_.Go.ChangeSpec) : _root_.Go.OpenSpec := { _root_.Go.OpenSpec.ofChange s with cond := some uptoSmall }

/-- 'ratlinelaw05.FrameTells', WHERE WHAT IT READS IS OF BULK AT MOST 1048576: true; the input reads as it did. -/
def frameTellsUptoRow : OpenClaim := { program := "ytdppjknfhggpbaa", sum := "49eec96e838cb83d6f2d2f5b7118ec3d7399a25c71bc61daf3a2aaa38facf727", func := "ratline/ratlinelaw05.FrameTells", spec := "frameTells", apart := false, narrowed := true }
def FrameTellsUptoSaid : Prop := frameTellsUptoRow.holds Try.pinned (OpenSpec.upto frameTellsSpec)

/-- 'ratlinelaw05.FrameBent', WHERE WHAT IT READS IS OF BULK AT MOST 1048576: true; the input reads as it did. -/
def frameBentUptoRow : OpenClaim := { program := "ytdppjknfhggpbaa", sum := "49eec96e838cb83d6f2d2f5b7118ec3d7399a25c71bc61daf3a2aaa38facf727", func := "ratline/ratlinelaw05.FrameBent", spec := "frameBent", apart := false, narrowed := true }
def FrameBentUptoSaid : Prop := frameBentUptoRow.holds Try.pinned (OpenSpec.upto frameBentSpec)

/-- 'ratlinelaw05.FrameCut', WHERE WHAT IT READS IS OF BULK AT MOST 1048576: true; the input reads as it did. -/
def frameCutUptoRow : OpenClaim := { program := "ytdppjknfhggpbaa", sum := "49eec96e838cb83d6f2d2f5b7118ec3d7399a25c71bc61daf3a2aaa38facf727", func := "ratline/ratlinelaw05.FrameCut", spec := "frameCut", apart := false, narrowed := true }
def FrameCutUptoSaid : Prop := frameCutUptoRow.holds Try.pinned (OpenSpec.upto frameCutSpec)

/-- 'ratlinelaw05.FrameParts', WHERE WHAT IT READS IS OF BULK AT MOST 1048576: true; the input reads as it did. -/
def framePartsUptoRow : OpenClaim := { program := "ytdppjknfhggpbaa", sum := "49eec96e838cb83d6f2d2f5b7118ec3d7399a25c71bc61daf3a2aaa38facf727", func := "ratline/ratlinelaw05.FrameParts", spec := "frameParts", apart := false, narrowed := true }
def FramePartsUptoSaid : Prop := framePartsUptoRow.holds Try.pinned (OpenSpec.upto framePartsSpec)

/-- 'ratlinelaw05.FrameSums', WHERE WHAT IT READS IS OF BULK AT MOST 1048576: true; the input reads as it did. -/
def frameSumsUptoRow : OpenClaim := { program := "ytdppjknfhggpbaa", sum := "49eec96e838cb83d6f2d2f5b7118ec3d7399a25c71bc61daf3a2aaa38facf727", func := "ratline/ratlinelaw05.FrameSums", spec := "frameSums", apart := false, narrowed := true }
def FrameSumsUptoSaid : Prop := frameSumsUptoRow.holds Try.pinned (OpenSpec.upto frameSumsSpec)

/-- 'ratlinelaw05.FrameApart', WHERE WHAT IT READS IS OF BULK AT MOST 1048576: true; the input reads as it did. -/
def frameApartUptoRow : OpenClaim := { program := "ytdppjknfhggpbaa", sum := "49eec96e838cb83d6f2d2f5b7118ec3d7399a25c71bc61daf3a2aaa38facf727", func := "ratline/ratlinelaw05.FrameApart", spec := "frameApart", apart := false, narrowed := true }
def FrameApartUptoSaid : Prop := frameApartUptoRow.holds Try.pinned (OpenSpec.upto frameApartSpec)

/-- 'ratlinelaw02.NumsShort', WHERE WHAT IT READS IS OF BULK AT MOST 1048576: true; the input reads as it did. -/
def numsShortUptoRow : OpenClaim := { program := "ytdppjknfhggpbaa", sum := "49eec96e838cb83d6f2d2f5b7118ec3d7399a25c71bc61daf3a2aaa38facf727", func := "ratline/ratlinelaw02.NumsShort", spec := "numsShort", unfollowed := true, recurses := true, apart := false, narrowed := true }
def NumsShortUptoSaid : Prop := numsShortUptoRow.holds Try.pinned (OpenSpec.upto numsShortSpec)

/-- 'ratlinelaw02.NumsTexts', WHERE WHAT IT READS IS OF BULK AT MOST 1048576: true; the input reads as it did. -/
def numsTextsUptoRow : OpenClaim := { program := "ytdppjknfhggpbaa", sum := "49eec96e838cb83d6f2d2f5b7118ec3d7399a25c71bc61daf3a2aaa38facf727", func := "ratline/ratlinelaw02.NumsTexts", spec := "numsTexts", unfollowed := true, recurses := true, apart := false, narrowed := true }
def NumsTextsUptoSaid : Prop := numsTextsUptoRow.holds Try.pinned (OpenSpec.upto numsTextsSpec)

/-- 'ratlinelaw02.NumsTells', WHERE WHAT IT READS IS OF BULK AT MOST 1048576: true; the input reads as it did. -/
def numsTellsUptoRow : OpenClaim := { program := "ytdppjknfhggpbaa", sum := "49eec96e838cb83d6f2d2f5b7118ec3d7399a25c71bc61daf3a2aaa38facf727", func := "ratline/ratlinelaw02.NumsTells", spec := "numsTells", unfollowed := true, recurses := true, apart := false, narrowed := true }
def NumsTellsUptoSaid : Prop := numsTellsUptoRow.holds Try.pinned (OpenSpec.upto numsTellsSpec)

/-- 'ratlinelaw02.NumsBack', WHERE WHAT IT READS IS OF BULK AT MOST 1048576: true; the input reads as it did. -/
def numsBackUptoRow : OpenClaim := { program := "ytdppjknfhggpbaa", sum := "49eec96e838cb83d6f2d2f5b7118ec3d7399a25c71bc61daf3a2aaa38facf727", func := "ratline/ratlinelaw02.NumsBack", spec := "numsBack", unfollowed := true, recurses := true, apart := false, narrowed := true }
def NumsBackUptoSaid : Prop := numsBackUptoRow.holds Try.pinned (OpenSpec.upto numsBackSpec)

/-- 'ratlinelaw02.NumsApart', WHERE WHAT IT READS IS OF BULK AT MOST 1048576: true; the input reads as it did. -/
def numsApartUptoRow : OpenClaim := { program := "ytdppjknfhggpbaa", sum := "49eec96e838cb83d6f2d2f5b7118ec3d7399a25c71bc61daf3a2aaa38facf727", func := "ratline/ratlinelaw02.NumsApart", spec := "numsApart", unfollowed := true, recurses := true, apart := false, narrowed := true }
def NumsApartUptoSaid : Prop := numsApartUptoRow.holds Try.pinned (OpenSpec.upto numsApartSpec)

end Rows
end Go.Proofs.Ytdppjknfhggpbaa
