/-
  No cell of these rows narrows 'for every input' (looked for: loops, veiled, ifaces, maps, wideKeys, modest, calm, conditions, laid).
  DERIVED. THE GIVEN ROWS OF THIS SEAT. 10 by the template 'for every input the law returns true; each argument reads behind the call as it read before'; 0 by the template 'total and deterministic' (their statements: YtlaihdipagejfaaTotals.lean).
  GIVEN WITH THE SEED: the statements are not yours to turn. If you find one false, say at which input.
  Laid BY PROGRAM, IN A SANDBOX (cutbox-rows.mjs): the forced cells as the released guide's own fill.sh prints them over the translation 1f98b95c76d25e43… (all of the seat's roots in one cut). By AI agents, Wed Nov 11 2026. No macro, syntax, notation, axiom, sorry.
-/
import Derived.Test.YtlaihdipagejfaaChecked
import GoSem.Claim
import GoSem.ClaimJoined
import GoSem.ClaimMapViews
import Derived.JoinedTies
import Derived.KernelRfl
namespace Go.Proofs.Ytlaihdipagejfaa
/- THE CELL 'sum', in the pinned program and in every row, IS THE sha256 OF THE DUMP (.gsa) THAT YtlaihdipagejfaaProg.lean LOADS. Nothing in Lean hashes anything: it is a label: what it is worth is what the hold of that sum in a sandbox is worth. -/
noncomputable def Try.pinned : Pinned := { name := "ytlaihdipagejfaa", sum := "1f98b95c76d25e435cf903c70528586f953c0f6661004a7413c7882052022067", checked := Try.checked }
namespace Rows
def none {H : Type} : Left H := { results := [], args := [] }

/-- 'ratlinelaw04.BatchBack': WHATEVER THE INPUT: true; the input reads as it did. -/
def batchBackSpec : ChangeSpec := { name := "batchBack", fn := fun _ => fun
  | [d1, d2, d3] => { results := [.lit (.bool true)], args := [d1, d2, d3] }
  | _ => none }
def batchBackRow : OpenClaim := { program := "ytlaihdipagejfaa", sum := "1f98b95c76d25e435cf903c70528586f953c0f6661004a7413c7882052022067", func := "ratline/ratlinelaw04.BatchBack", spec := "batchBack", unfollowed := true, recurses := true, apart := false }
def BatchBackSaid : Prop := batchBackRow.holds Try.pinned (OpenSpec.ofChange batchBackSpec)

/-- ITS FALSE NEIGHBOUR: 'it returns false'. Refute it at one input. -/
def batchBackWrong : ChangeSpec := { name := "batchBack", fn := fun _ => fun
  | [d1, d2, d3] => { results := [.lit (.bool false)], args := [d1, d2, d3] }
  | _ => none }
def BatchBackWrongFalsely : Prop := batchBackRow.holds Try.pinned (OpenSpec.ofChange batchBackWrong)

/-- 'ratlinelaw04.BatchEntries': WHATEVER THE INPUT: true; the input reads as it did. -/
def batchEntriesSpec : ChangeSpec := { name := "batchEntries", fn := fun _ => fun
  | [d1, d2, d3] => { results := [.lit (.bool true)], args := [d1, d2, d3] }
  | _ => none }
def batchEntriesRow : OpenClaim := { program := "ytlaihdipagejfaa", sum := "1f98b95c76d25e435cf903c70528586f953c0f6661004a7413c7882052022067", func := "ratline/ratlinelaw04.BatchEntries", spec := "batchEntries", unfollowed := true, recurses := true, apart := false }
def BatchEntriesSaid : Prop := batchEntriesRow.holds Try.pinned (OpenSpec.ofChange batchEntriesSpec)

/-- ITS FALSE NEIGHBOUR: 'it returns false'. Refute it at one input. -/
def batchEntriesWrong : ChangeSpec := { name := "batchEntries", fn := fun _ => fun
  | [d1, d2, d3] => { results := [.lit (.bool false)], args := [d1, d2, d3] }
  | _ => none }
def BatchEntriesWrongFalsely : Prop := batchEntriesRow.holds Try.pinned (OpenSpec.ofChange batchEntriesWrong)

/-- 'ratlinelaw04.BatchCut': WHATEVER THE INPUT: true; the input reads as it did. -/
def batchCutSpec : ChangeSpec := { name := "batchCut", fn := fun _ => fun
  | [d1, d2, d3, d4] => { results := [.lit (.bool true)], args := [d1, d2, d3, d4] }
  | _ => none }
def batchCutRow : OpenClaim := { program := "ytlaihdipagejfaa", sum := "1f98b95c76d25e435cf903c70528586f953c0f6661004a7413c7882052022067", func := "ratline/ratlinelaw04.BatchCut", spec := "batchCut", unfollowed := true, recurses := true, apart := false }
def BatchCutSaid : Prop := batchCutRow.holds Try.pinned (OpenSpec.ofChange batchCutSpec)

/-- ITS FALSE NEIGHBOUR: 'it returns false'. Refute it at one input. -/
def batchCutWrong : ChangeSpec := { name := "batchCut", fn := fun _ => fun
  | [d1, d2, d3, d4] => { results := [.lit (.bool false)], args := [d1, d2, d3, d4] }
  | _ => none }
def BatchCutWrongFalsely : Prop := batchCutRow.holds Try.pinned (OpenSpec.ofChange batchCutWrong)

/-- 'ratlinelaw04.BatchTells': WHATEVER THE INPUT: true; the input reads as it did. -/
def batchTellsSpec : ChangeSpec := { name := "batchTells", fn := fun _ => fun
  | [d1, d2, d3] => { results := [.lit (.bool true)], args := [d1, d2, d3] }
  | _ => none }
def batchTellsRow : OpenClaim := { program := "ytlaihdipagejfaa", sum := "1f98b95c76d25e435cf903c70528586f953c0f6661004a7413c7882052022067", func := "ratline/ratlinelaw04.BatchTells", spec := "batchTells", unfollowed := true, recurses := true, apart := false }
def BatchTellsSaid : Prop := batchTellsRow.holds Try.pinned (OpenSpec.ofChange batchTellsSpec)

/-- ITS FALSE NEIGHBOUR: 'it returns false'. Refute it at one input. -/
def batchTellsWrong : ChangeSpec := { name := "batchTells", fn := fun _ => fun
  | [d1, d2, d3] => { results := [.lit (.bool false)], args := [d1, d2, d3] }
  | _ => none }
def BatchTellsWrongFalsely : Prop := batchTellsRow.holds Try.pinned (OpenSpec.ofChange batchTellsWrong)

/-- 'ratlinelaw04.BatchRight': WHATEVER THE INPUT: true; the input reads as it did. -/
def batchRightSpec : ChangeSpec := { name := "batchRight", fn := fun _ => fun
  | [d1, d2, d3] => { results := [.lit (.bool true)], args := [d1, d2, d3] }
  | _ => none }
def batchRightRow : OpenClaim := { program := "ytlaihdipagejfaa", sum := "1f98b95c76d25e435cf903c70528586f953c0f6661004a7413c7882052022067", func := "ratline/ratlinelaw04.BatchRight", spec := "batchRight", unfollowed := true, recurses := true, apart := false }
def BatchRightSaid : Prop := batchRightRow.holds Try.pinned (OpenSpec.ofChange batchRightSpec)

/-- ITS FALSE NEIGHBOUR: 'it returns false'. Refute it at one input. -/
def batchRightWrong : ChangeSpec := { name := "batchRight", fn := fun _ => fun
  | [d1, d2, d3] => { results := [.lit (.bool false)], args := [d1, d2, d3] }
  | _ => none }
def BatchRightWrongFalsely : Prop := batchRightRow.holds Try.pinned (OpenSpec.ofChange batchRightWrong)

/-- 'ratlinelaw09.EditRefused': WHATEVER THE INPUT: true; the input reads as it did. -/
def editRefusedSpec : ChangeSpec := { name := "editRefused", fn := fun _ => fun
  | [d1, d2] => { results := [.lit (.bool true)], args := [d1, d2] }
  | _ => none }
def editRefusedRow : OpenClaim := { program := "ytlaihdipagejfaa", sum := "1f98b95c76d25e435cf903c70528586f953c0f6661004a7413c7882052022067", func := "ratline/ratlinelaw09.EditRefused", spec := "editRefused", unfollowed := true, recurses := true, apart := false }
def EditRefusedSaid : Prop := editRefusedRow.holds Try.pinned (OpenSpec.ofChange editRefusedSpec)

/-- ITS FALSE NEIGHBOUR: 'it returns false'. Refute it at one input. -/
def editRefusedWrong : ChangeSpec := { name := "editRefused", fn := fun _ => fun
  | [d1, d2] => { results := [.lit (.bool false)], args := [d1, d2] }
  | _ => none }
def EditRefusedWrongFalsely : Prop := editRefusedRow.holds Try.pinned (OpenSpec.ofChange editRefusedWrong)

/-- 'ratlinelaw09.EditApart': WHATEVER THE INPUT: true; the input reads as it did. -/
def editApartSpec : ChangeSpec := { name := "editApart", fn := fun _ => fun
  | [d1, d2] => { results := [.lit (.bool true)], args := [d1, d2] }
  | _ => none }
def editApartRow : OpenClaim := { program := "ytlaihdipagejfaa", sum := "1f98b95c76d25e435cf903c70528586f953c0f6661004a7413c7882052022067", func := "ratline/ratlinelaw09.EditApart", spec := "editApart", unfollowed := true, recurses := true, apart := false }
def EditApartSaid : Prop := editApartRow.holds Try.pinned (OpenSpec.ofChange editApartSpec)

/-- ITS FALSE NEIGHBOUR: 'it returns false'. Refute it at one input. -/
def editApartWrong : ChangeSpec := { name := "editApart", fn := fun _ => fun
  | [d1, d2] => { results := [.lit (.bool false)], args := [d1, d2] }
  | _ => none }
def EditApartWrongFalsely : Prop := editApartRow.holds Try.pinned (OpenSpec.ofChange editApartWrong)

/-- 'ratlinelaw09.EditBack': WHATEVER THE INPUT: true; the input reads as it did. -/
def editBackSpec : ChangeSpec := { name := "editBack", fn := fun _ => fun
  | [d1, d2, d3] => { results := [.lit (.bool true)], args := [d1, d2, d3] }
  | _ => none }
def editBackRow : OpenClaim := { program := "ytlaihdipagejfaa", sum := "1f98b95c76d25e435cf903c70528586f953c0f6661004a7413c7882052022067", func := "ratline/ratlinelaw09.EditBack", spec := "editBack", unfollowed := true, recurses := true, apart := false }
def EditBackSaid : Prop := editBackRow.holds Try.pinned (OpenSpec.ofChange editBackSpec)

/-- ITS FALSE NEIGHBOUR: 'it returns false'. Refute it at one input. -/
def editBackWrong : ChangeSpec := { name := "editBack", fn := fun _ => fun
  | [d1, d2, d3] => { results := [.lit (.bool false)], args := [d1, d2, d3] }
  | _ => none }
def EditBackWrongFalsely : Prop := editBackRow.holds Try.pinned (OpenSpec.ofChange editBackWrong)

/-- 'ratlinelaw09.EditTells': WHATEVER THE INPUT: true; the input reads as it did. -/
def editTellsSpec : ChangeSpec := { name := "editTells", fn := fun _ => fun
  | [d1, d2, d3, d4] => { results := [.lit (.bool true)], args := [d1, d2, d3, d4] }
  | _ => none }
def editTellsRow : OpenClaim := { program := "ytlaihdipagejfaa", sum := "1f98b95c76d25e435cf903c70528586f953c0f6661004a7413c7882052022067", func := "ratline/ratlinelaw09.EditTells", spec := "editTells", unfollowed := true, recurses := true, apart := false }
def EditTellsSaid : Prop := editTellsRow.holds Try.pinned (OpenSpec.ofChange editTellsSpec)

/-- ITS FALSE NEIGHBOUR: 'it returns false'. Refute it at one input. -/
def editTellsWrong : ChangeSpec := { name := "editTells", fn := fun _ => fun
  | [d1, d2, d3, d4] => { results := [.lit (.bool false)], args := [d1, d2, d3, d4] }
  | _ => none }
def EditTellsWrongFalsely : Prop := editTellsRow.holds Try.pinned (OpenSpec.ofChange editTellsWrong)

/-- 'ratlinelaw09.EditGrows': WHATEVER THE INPUT: true; the input reads as it did. -/
def editGrowsSpec : ChangeSpec := { name := "editGrows", fn := fun _ => fun
  | [d] => { results := [.lit (.bool true)], args := [d] }
  | _ => none }
def editGrowsRow : OpenClaim := { program := "ytlaihdipagejfaa", sum := "1f98b95c76d25e435cf903c70528586f953c0f6661004a7413c7882052022067", func := "ratline/ratlinelaw09.EditGrows", spec := "editGrows", unfollowed := true, recurses := true, apart := false }
def EditGrowsSaid : Prop := editGrowsRow.holds Try.pinned (OpenSpec.ofChange editGrowsSpec)

/-- ITS FALSE NEIGHBOUR: 'it returns false'. Refute it at one input. -/
def editGrowsWrong : ChangeSpec := { name := "editGrows", fn := fun _ => fun
  | [d] => { results := [.lit (.bool false)], args := [d] }
  | _ => none }
def EditGrowsWrongFalsely : Prop := editGrowsRow.holds Try.pinned (OpenSpec.ofChange editGrowsWrong)

/- THE SECOND FORM. 'bulk': how many values and letters a reading holds, each counted each time it is reached (what is shared counts as often as it is met; a slice's spare places count too). A statement '..UptoSaid' is the law's where the arguments, and the package variables that the reading takes, are together of bulk at most 1048576: NARROWER than '..Said'. Prove '..Said' where nothing that the law and all that it calls make is longer than what came in: it says more and counts as full. Else prove '..UptoSaid'. A law counts once. -/
mutual
def uptoBulk {H : Type} : DataW H → Nat
  | .lit (.string bytes) => bytes.length + 1
  | .lit _ => 1
  | .nil => 1
  | .ptr d => uptoBulk d + 1
  | .slice elems spare => uptoBulkAll elems + uptoBulkAll spare + 1
  | .agg parts => uptoBulkAll parts + 1
  | .iface _ d => uptoBulk d + 1
  | .map entries => uptoBulkEntries entries + 1
  | .held _ => 1
def uptoBulkAll {H : Type} : List (DataW H) → Nat
  | [] => 0
  | d :: r => uptoBulk d + uptoBulkAll r
def uptoBulkEntries {H : Type} : List (Lit × DataW H) → Nat
  | [] => 0
  | x :: r => uptoBulkEntry x + uptoBulkEntries r
def uptoBulkEntry {H : Type} : Lit × DataW H → Nat
  | (.string bytes, d) => bytes.length + uptoBulk d + 1
  | (_, d) => uptoBulk d + 1
 end
def uptoSmall : (H : Type) → List (DataW H) → Bool := fun _ ds => decide (uptoBulkAll ds ≤ 1048576)
def OpenSpec.upto (s : _root_.Go.ChangeSpec) : _root_.Go.OpenSpec := { _root_.Go.OpenSpec.ofChange s with cond := some uptoSmall }

/-- 'ratlinelaw04.BatchBack', WHERE WHAT IT READS IS OF BULK AT MOST 1048576: true; the input reads as it did. -/
def batchBackUptoRow : OpenClaim := { program := "ytlaihdipagejfaa", sum := "1f98b95c76d25e435cf903c70528586f953c0f6661004a7413c7882052022067", func := "ratline/ratlinelaw04.BatchBack", spec := "batchBack", unfollowed := true, recurses := true, apart := false, narrowed := true }
def BatchBackUptoSaid : Prop := batchBackUptoRow.holds Try.pinned (OpenSpec.upto batchBackSpec)

/-- 'ratlinelaw04.BatchEntries', WHERE WHAT IT READS IS OF BULK AT MOST 1048576: true; the input reads as it did. -/
def batchEntriesUptoRow : OpenClaim := { program := "ytlaihdipagejfaa", sum := "1f98b95c76d25e435cf903c70528586f953c0f6661004a7413c7882052022067", func := "ratline/ratlinelaw04.BatchEntries", spec := "batchEntries", unfollowed := true, recurses := true, apart := false, narrowed := true }
def BatchEntriesUptoSaid : Prop := batchEntriesUptoRow.holds Try.pinned (OpenSpec.upto batchEntriesSpec)

/-- 'ratlinelaw04.BatchCut', WHERE WHAT IT READS IS OF BULK AT MOST 1048576: true; the input reads as it did. -/
def batchCutUptoRow : OpenClaim := { program := "ytlaihdipagejfaa", sum := "1f98b95c76d25e435cf903c70528586f953c0f6661004a7413c7882052022067", func := "ratline/ratlinelaw04.BatchCut", spec := "batchCut", unfollowed := true, recurses := true, apart := false, narrowed := true }
def BatchCutUptoSaid : Prop := batchCutUptoRow.holds Try.pinned (OpenSpec.upto batchCutSpec)

/-- 'ratlinelaw04.BatchTells', WHERE WHAT IT READS IS OF BULK AT MOST 1048576: true; the input reads as it did. -/
def batchTellsUptoRow : OpenClaim := { program := "ytlaihdipagejfaa", sum := "1f98b95c76d25e435cf903c70528586f953c0f6661004a7413c7882052022067", func := "ratline/ratlinelaw04.BatchTells", spec := "batchTells", unfollowed := true, recurses := true, apart := false, narrowed := true }
def BatchTellsUptoSaid : Prop := batchTellsUptoRow.holds Try.pinned (OpenSpec.upto batchTellsSpec)

/-- 'ratlinelaw04.BatchRight', WHERE WHAT IT READS IS OF BULK AT MOST 1048576: true; the input reads as it did. -/
def batchRightUptoRow : OpenClaim := { program := "ytlaihdipagejfaa", sum := "1f98b95c76d25e435cf903c70528586f953c0f6661004a7413c7882052022067", func := "ratline/ratlinelaw04.BatchRight", spec := "batchRight", unfollowed := true, recurses := true, apart := false, narrowed := true }
def BatchRightUptoSaid : Prop := batchRightUptoRow.holds Try.pinned (OpenSpec.upto batchRightSpec)

/-- 'ratlinelaw09.EditRefused', WHERE WHAT IT READS IS OF BULK AT MOST 1048576: true; the input reads as it did. -/
def editRefusedUptoRow : OpenClaim := { program := "ytlaihdipagejfaa", sum := "1f98b95c76d25e435cf903c70528586f953c0f6661004a7413c7882052022067", func := "ratline/ratlinelaw09.EditRefused", spec := "editRefused", unfollowed := true, recurses := true, apart := false, narrowed := true }
def EditRefusedUptoSaid : Prop := editRefusedUptoRow.holds Try.pinned (OpenSpec.upto editRefusedSpec)

/-- 'ratlinelaw09.EditApart', WHERE WHAT IT READS IS OF BULK AT MOST 1048576: true; the input reads as it did. -/
def editApartUptoRow : OpenClaim := { program := "ytlaihdipagejfaa", sum := "1f98b95c76d25e435cf903c70528586f953c0f6661004a7413c7882052022067", func := "ratline/ratlinelaw09.EditApart", spec := "editApart", unfollowed := true, recurses := true, apart := false, narrowed := true }
def EditApartUptoSaid : Prop := editApartUptoRow.holds Try.pinned (OpenSpec.upto editApartSpec)

/-- 'ratlinelaw09.EditBack', WHERE WHAT IT READS IS OF BULK AT MOST 1048576: true; the input reads as it did. -/
def editBackUptoRow : OpenClaim := { program := "ytlaihdipagejfaa", sum := "1f98b95c76d25e435cf903c70528586f953c0f6661004a7413c7882052022067", func := "ratline/ratlinelaw09.EditBack", spec := "editBack", unfollowed := true, recurses := true, apart := false, narrowed := true }
def EditBackUptoSaid : Prop := editBackUptoRow.holds Try.pinned (OpenSpec.upto editBackSpec)

/-- 'ratlinelaw09.EditTells', WHERE WHAT IT READS IS OF BULK AT MOST 1048576: true; the input reads as it did. -/
def editTellsUptoRow : OpenClaim := { program := "ytlaihdipagejfaa", sum := "1f98b95c76d25e435cf903c70528586f953c0f6661004a7413c7882052022067", func := "ratline/ratlinelaw09.EditTells", spec := "editTells", unfollowed := true, recurses := true, apart := false, narrowed := true }
def EditTellsUptoSaid : Prop := editTellsUptoRow.holds Try.pinned (OpenSpec.upto editTellsSpec)

/-- 'ratlinelaw09.EditGrows', WHERE WHAT IT READS IS OF BULK AT MOST 1048576: true; the input reads as it did. -/
def editGrowsUptoRow : OpenClaim := { program := "ytlaihdipagejfaa", sum := "1f98b95c76d25e435cf903c70528586f953c0f6661004a7413c7882052022067", func := "ratline/ratlinelaw09.EditGrows", spec := "editGrows", unfollowed := true, recurses := true, apart := false, narrowed := true }
def EditGrowsUptoSaid : Prop := editGrowsUptoRow.holds Try.pinned (OpenSpec.upto editGrowsSpec)

end Rows
end Go.Proofs.Ytlaihdipagejfaa
