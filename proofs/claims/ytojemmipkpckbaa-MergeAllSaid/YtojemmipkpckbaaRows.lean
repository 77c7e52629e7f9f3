/-
  No cell of these rows narrows 'for every input' (looked for: loops, veiled, ifaces, maps, wideKeys, modest, calm, conditions, laid).
  DERIVED. THE GIVEN ROWS OF THIS SEAT. 11 by the template 'for every input the law returns true; each argument reads behind the call as it read before'; 0 by the template 'total and deterministic' (their statements: YtojemmipkpckbaaTotals.lean).
  GIVEN WITH THE SEED: the statements are not yours to turn. If you find one false, say at which input.
  Laid BY PROGRAM, IN A SANDBOX (cutbox-rows.mjs): the forced cells as the released guide's own fill.sh prints them over the translation 03a9d38b91a6ef26… (all of the seat's roots in one cut). By AI agents, Wed Nov 11 2026. No macro, syntax, notation, axiom, sorry.
-/
import Derived.Test.YtojemmipkpckbaaChecked
import GoSem.Claim
import GoSem.ClaimJoined
import GoSem.ClaimMapViews
import Derived.JoinedTies
import Derived.KernelRfl
namespace Go.Proofs.Ytojemmipkpckbaa
/- THE CELL 'sum', in the pinned program and in every row, IS THE sha256 OF THE DUMP (.gsa) THAT YtojemmipkpckbaaProg.lean LOADS. Nothing in Lean hashes anything: it is a label: what it is worth is what the hold of that sum in a sandbox is worth. -/
noncomputable def Try.pinned : Pinned := { name := "ytojemmipkpckbaa", sum := "03a9d38b91a6ef26fd10187c8a09e69457d1852882e69c77dc07fe3b45236026", checked := Try.checked }
namespace Rows
def none {H : Type} : Left H := { results := [], args := [] }

/-- 'ratlinelaw11.MergeTells': WHATEVER THE INPUT: true; the input reads as it did. -/
def mergeTellsSpec : ChangeSpec := { name := "mergeTells", fn := fun _ => fun
  | [d1, d2, d3, d4, d5] => { results := [.lit (.bool true)], args := [d1, d2, d3, d4, d5] }
  | _ => none }
def mergeTellsRow : OpenClaim := { program := "ytojemmipkpckbaa", sum := "03a9d38b91a6ef26fd10187c8a09e69457d1852882e69c77dc07fe3b45236026", func := "ratline/ratlinelaw11.MergeTells", spec := "mergeTells", unfollowed := true, recurses := true, plainKeys := false, apart := false }
def MergeTellsSaid : Prop := mergeTellsRow.holds Try.pinned (OpenSpec.ofChange mergeTellsSpec)

/-- ITS FALSE NEIGHBOUR: 'it returns false'. Refute it at one input. -/
def mergeTellsWrong : ChangeSpec := { name := "mergeTells", fn := fun _ => fun
  | [d1, d2, d3, d4, d5] => { results := [.lit (.bool false)], args := [d1, d2, d3, d4, d5] }
  | _ => none }
def MergeTellsWrongFalsely : Prop := mergeTellsRow.holds Try.pinned (OpenSpec.ofChange mergeTellsWrong)

/-- 'ratlinelaw11.MergeSees': WHATEVER THE INPUT: true; the input reads as it did. -/
def mergeSeesSpec : ChangeSpec := { name := "mergeSees", fn := fun _ => fun
  | [d1, d2, d3, d4] => { results := [.lit (.bool true)], args := [d1, d2, d3, d4] }
  | _ => none }
def mergeSeesRow : OpenClaim := { program := "ytojemmipkpckbaa", sum := "03a9d38b91a6ef26fd10187c8a09e69457d1852882e69c77dc07fe3b45236026", func := "ratline/ratlinelaw11.MergeSees", spec := "mergeSees", unfollowed := true, recurses := true, plainKeys := false, apart := false }
def MergeSeesSaid : Prop := mergeSeesRow.holds Try.pinned (OpenSpec.ofChange mergeSeesSpec)

/-- ITS FALSE NEIGHBOUR: 'it returns false'. Refute it at one input. -/
def mergeSeesWrong : ChangeSpec := { name := "mergeSees", fn := fun _ => fun
  | [d1, d2, d3, d4] => { results := [.lit (.bool false)], args := [d1, d2, d3, d4] }
  | _ => none }
def MergeSeesWrongFalsely : Prop := mergeSeesRow.holds Try.pinned (OpenSpec.ofChange mergeSeesWrong)

/-- 'ratlinelaw11.MergeLater': WHATEVER THE INPUT: true; the input reads as it did. -/
def mergeLaterSpec : ChangeSpec := { name := "mergeLater", fn := fun _ => fun
  | [d1, d2, d3, d4] => { results := [.lit (.bool true)], args := [d1, d2, d3, d4] }
  | _ => none }
def mergeLaterRow : OpenClaim := { program := "ytojemmipkpckbaa", sum := "03a9d38b91a6ef26fd10187c8a09e69457d1852882e69c77dc07fe3b45236026", func := "ratline/ratlinelaw11.MergeLater", spec := "mergeLater", unfollowed := true, recurses := true, plainKeys := false, apart := false }
def MergeLaterSaid : Prop := mergeLaterRow.holds Try.pinned (OpenSpec.ofChange mergeLaterSpec)

/-- ITS FALSE NEIGHBOUR: 'it returns false'. Refute it at one input. -/
def mergeLaterWrong : ChangeSpec := { name := "mergeLater", fn := fun _ => fun
  | [d1, d2, d3, d4] => { results := [.lit (.bool false)], args := [d1, d2, d3, d4] }
  | _ => none }
def MergeLaterWrongFalsely : Prop := mergeLaterRow.holds Try.pinned (OpenSpec.ofChange mergeLaterWrong)

/-- 'ratlinelaw11.MergeSpread': WHATEVER THE INPUT: true; the input reads as it did. -/
def mergeSpreadSpec : ChangeSpec := { name := "mergeSpread", fn := fun _ => fun
  | [d1, d2, d3, d4, d5] => { results := [.lit (.bool true)], args := [d1, d2, d3, d4, d5] }
  | _ => none }
def mergeSpreadRow : OpenClaim := { program := "ytojemmipkpckbaa", sum := "03a9d38b91a6ef26fd10187c8a09e69457d1852882e69c77dc07fe3b45236026", func := "ratline/ratlinelaw11.MergeSpread", spec := "mergeSpread", unfollowed := true, recurses := true, plainKeys := false, apart := false }
def MergeSpreadSaid : Prop := mergeSpreadRow.holds Try.pinned (OpenSpec.ofChange mergeSpreadSpec)

/-- ITS FALSE NEIGHBOUR: 'it returns false'. Refute it at one input. -/
def mergeSpreadWrong : ChangeSpec := { name := "mergeSpread", fn := fun _ => fun
  | [d1, d2, d3, d4, d5] => { results := [.lit (.bool false)], args := [d1, d2, d3, d4, d5] }
  | _ => none }
def MergeSpreadWrongFalsely : Prop := mergeSpreadRow.holds Try.pinned (OpenSpec.ofChange mergeSpreadWrong)

/-- 'ratlinelaw11.MergeAll': WHATEVER THE INPUT: true; the input reads as it did. -/
def mergeAllSpec : ChangeSpec := { name := "mergeAll", fn := fun _ => fun
  | [d] => { results := [.lit (.bool true)], args := [d] }
  | _ => none }
def mergeAllRow : OpenClaim := { program := "ytojemmipkpckbaa", sum := "03a9d38b91a6ef26fd10187c8a09e69457d1852882e69c77dc07fe3b45236026", func := "ratline/ratlinelaw11.MergeAll", spec := "mergeAll", unfollowed := true, recurses := true, plainKeys := false, apart := false }
def MergeAllSaid : Prop := mergeAllRow.holds Try.pinned (OpenSpec.ofChange mergeAllSpec)

/-- ITS FALSE NEIGHBOUR: 'it returns false'. Refute it at one input. -/
def mergeAllWrong : ChangeSpec := { name := "mergeAll", fn := fun _ => fun
  | [d] => { results := [.lit (.bool false)], args := [d] }
  | _ => none }
def MergeAllWrongFalsely : Prop := mergeAllRow.holds Try.pinned (OpenSpec.ofChange mergeAllWrong)

/-- 'ratlinelaw03.IkeyOrder': WHATEVER THE INPUT: true; the input reads as it did. -/
def ikeyOrderSpec : ChangeSpec := { name := "ikeyOrder", fn := fun _ => fun
  | [d1, d2, d3] => { results := [.lit (.bool true)], args := [d1, d2, d3] }
  | _ => none }
def ikeyOrderRow : OpenClaim := { program := "ytojemmipkpckbaa", sum := "03a9d38b91a6ef26fd10187c8a09e69457d1852882e69c77dc07fe3b45236026", func := "ratline/ratlinelaw03.IkeyOrder", spec := "ikeyOrder", unfollowed := true, recurses := true, plainKeys := false, apart := false }
def IkeyOrderSaid : Prop := ikeyOrderRow.holds Try.pinned (OpenSpec.ofChange ikeyOrderSpec)

/-- ITS FALSE NEIGHBOUR: 'it returns false'. Refute it at one input. -/
def ikeyOrderWrong : ChangeSpec := { name := "ikeyOrder", fn := fun _ => fun
  | [d1, d2, d3] => { results := [.lit (.bool false)], args := [d1, d2, d3] }
  | _ => none }
def IkeyOrderWrongFalsely : Prop := ikeyOrderRow.holds Try.pinned (OpenSpec.ofChange ikeyOrderWrong)

/-- 'ratlinelaw03.IkeySought': WHATEVER THE INPUT: true; the input reads as it did. -/
def ikeySoughtSpec : ChangeSpec := { name := "ikeySought", fn := fun _ => fun
  | [d1, d2, d3] => { results := [.lit (.bool true)], args := [d1, d2, d3] }
  | _ => none }
def ikeySoughtRow : OpenClaim := { program := "ytojemmipkpckbaa", sum := "03a9d38b91a6ef26fd10187c8a09e69457d1852882e69c77dc07fe3b45236026", func := "ratline/ratlinelaw03.IkeySought", spec := "ikeySought", unfollowed := true, recurses := true, plainKeys := false, apart := false }
def IkeySoughtSaid : Prop := ikeySoughtRow.holds Try.pinned (OpenSpec.ofChange ikeySoughtSpec)

/-- ITS FALSE NEIGHBOUR: 'it returns false'. Refute it at one input. -/
def ikeySoughtWrong : ChangeSpec := { name := "ikeySought", fn := fun _ => fun
  | [d1, d2, d3] => { results := [.lit (.bool false)], args := [d1, d2, d3] }
  | _ => none }
def IkeySoughtWrongFalsely : Prop := ikeySoughtRow.holds Try.pinned (OpenSpec.ofChange ikeySoughtWrong)

/-- 'ratlinelaw03.IkeyBack': WHATEVER THE INPUT: true; the input reads as it did. -/
def ikeyBackSpec : ChangeSpec := { name := "ikeyBack", fn := fun _ => fun
  | [d1, d2, d3] => { results := [.lit (.bool true)], args := [d1, d2, d3] }
  | _ => none }
def ikeyBackRow : OpenClaim := { program := "ytojemmipkpckbaa", sum := "03a9d38b91a6ef26fd10187c8a09e69457d1852882e69c77dc07fe3b45236026", func := "ratline/ratlinelaw03.IkeyBack", spec := "ikeyBack", unfollowed := true, recurses := true, plainKeys := false, apart := false }
def IkeyBackSaid : Prop := ikeyBackRow.holds Try.pinned (OpenSpec.ofChange ikeyBackSpec)

/-- ITS FALSE NEIGHBOUR: 'it returns false'. Refute it at one input. -/
def ikeyBackWrong : ChangeSpec := { name := "ikeyBack", fn := fun _ => fun
  | [d1, d2, d3] => { results := [.lit (.bool false)], args := [d1, d2, d3] }
  | _ => none }
def IkeyBackWrongFalsely : Prop := ikeyBackRow.holds Try.pinned (OpenSpec.ofChange ikeyBackWrong)

/-- 'ratlinelaw03.IkeyRight': WHATEVER THE INPUT: true; the input reads as it did. -/
def ikeyRightSpec : ChangeSpec := { name := "ikeyRight", fn := fun _ => fun
  | [d1, d2, d3] => { results := [.lit (.bool true)], args := [d1, d2, d3] }
  | _ => none }
def ikeyRightRow : OpenClaim := { program := "ytojemmipkpckbaa", sum := "03a9d38b91a6ef26fd10187c8a09e69457d1852882e69c77dc07fe3b45236026", func := "ratline/ratlinelaw03.IkeyRight", spec := "ikeyRight", unfollowed := true, recurses := true, plainKeys := false, apart := false }
def IkeyRightSaid : Prop := ikeyRightRow.holds Try.pinned (OpenSpec.ofChange ikeyRightSpec)

/-- ITS FALSE NEIGHBOUR: 'it returns false'. Refute it at one input. -/
def ikeyRightWrong : ChangeSpec := { name := "ikeyRight", fn := fun _ => fun
  | [d1, d2, d3] => { results := [.lit (.bool false)], args := [d1, d2, d3] }
  | _ => none }
def IkeyRightWrongFalsely : Prop := ikeyRightRow.holds Try.pinned (OpenSpec.ofChange ikeyRightWrong)

/-- 'ratlinelaw03.IkeyTells': WHATEVER THE INPUT: true; the input reads as it did. -/
def ikeyTellsSpec : ChangeSpec := { name := "ikeyTells", fn := fun _ => fun
  | [d1, d2, d3, d4, d5] => { results := [.lit (.bool true)], args := [d1, d2, d3, d4, d5] }
  | _ => none }
def ikeyTellsRow : OpenClaim := { program := "ytojemmipkpckbaa", sum := "03a9d38b91a6ef26fd10187c8a09e69457d1852882e69c77dc07fe3b45236026", func := "ratline/ratlinelaw03.IkeyTells", spec := "ikeyTells", unfollowed := true, recurses := true, plainKeys := false, apart := false }
def IkeyTellsSaid : Prop := ikeyTellsRow.holds Try.pinned (OpenSpec.ofChange ikeyTellsSpec)

/-- ITS FALSE NEIGHBOUR: 'it returns false'. Refute it at one input. -/
def ikeyTellsWrong : ChangeSpec := { name := "ikeyTells", fn := fun _ => fun
  | [d1, d2, d3, d4, d5] => { results := [.lit (.bool false)], args := [d1, d2, d3, d4, d5] }
  | _ => none }
def IkeyTellsWrongFalsely : Prop := ikeyTellsRow.holds Try.pinned (OpenSpec.ofChange ikeyTellsWrong)

/-- 'ratlinelaw03.IkeyRising': WHATEVER THE INPUT: true; the input reads as it did. -/
def ikeyRisingSpec : ChangeSpec := { name := "ikeyRising", fn := fun _ => fun
  | [d1, d2] => { results := [.lit (.bool true)], args := [d1, d2] }
  | _ => none }
def ikeyRisingRow : OpenClaim := { program := "ytojemmipkpckbaa", sum := "03a9d38b91a6ef26fd10187c8a09e69457d1852882e69c77dc07fe3b45236026", func := "ratline/ratlinelaw03.IkeyRising", spec := "ikeyRising", unfollowed := true, recurses := true, plainKeys := false, apart := false }
def IkeyRisingSaid : Prop := ikeyRisingRow.holds Try.pinned (OpenSpec.ofChange ikeyRisingSpec)

/-- ITS FALSE NEIGHBOUR: 'it returns false'. Refute it at one input. -/
def ikeyRisingWrong : ChangeSpec := { name := "ikeyRising", fn := fun _ => fun
  | [d1, d2] => { results := [.lit (.bool false)], args := [d1, d2] }
  | _ => none }
def IkeyRisingWrongFalsely : Prop := ikeyRisingRow.holds Try.pinned (OpenSpec.ofChange ikeyRisingWrong)

/- THE SECOND FORM. 'bulk': how many values and letters a reading holds, each counted each time it is reached (what is shared counts as often as it is met; a slice's spare places count too). A statement '..UptoSaid' is the law's where the arguments, and the package variables that the reading takes, are together of bulk at most 1048576: NARROWER than '..Said'. Prove '..Said' where nothing that the law and all that it calls make is longer than what came in: it says more and counts as full. Else prove '..UptoSaid'. A law counts once. -/
mutual
def uptoBulk {H : Type} : DataW H → Nat
  | .lit (.string bytes) => bytes.length + 1
  | .lit _ => 1
  | .nil => 1
  | .ptr d => uptoBulk d + 1
  | .slice elems spare => uptoBulkAll elems + uptoBulkAll spare + 1
  | .agg parts => uptoBulkAll parts + 1
  | .iface _ d => uptoBulk d + 1
  | .map entries => uptoBulkEntries entries + 1
  | .held _ => 1
def uptoBulkAll {H : Type} : List (DataW H) → Nat
  | [] => 0
  | d :: r => uptoBulk d + uptoBulkAll r
def uptoBulkEntries {H : Type} : List (Lit × DataW H) → Nat
  | [] => 0
  | x :: r => uptoBulkEntry x + uptoBulkEntries r
def uptoBulkEntry {H : Type} : Lit × DataW H → Nat
  | (.string bytes, d) => bytes.length + uptoBulk d + 1
  | (_, d) => uptoBulk d + 1
 end
def uptoSmall : (H : Type) → List (DataW H) → Bool := fun _ ds => decide (uptoBulkAll ds ≤ 1048576)
def OpenSpec.upto (s : _root_.Go.ChangeSpec) : _root_.Go.OpenSpec := { _root_.Go.OpenSpec.ofChange s with cond := some uptoSmall }

/-- 'ratlinelaw11.MergeTells', WHERE WHAT IT READS IS OF BULK AT MOST 1048576: true; the input reads as it did. -/
def mergeTellsUptoRow : OpenClaim := { program := "ytojemmipkpckbaa", sum := "03a9d38b91a6ef26fd10187c8a09e69457d1852882e69c77dc07fe3b45236026", func := "ratline/ratlinelaw11.MergeTells", spec := "mergeTells", unfollowed := true, recurses := true, plainKeys := false, apart := false, narrowed := true }
def MergeTellsUptoSaid : Prop := mergeTellsUptoRow.holds Try.pinned (OpenSpec.upto mergeTellsSpec)

/-- 'ratlinelaw11.MergeSees', WHERE WHAT IT READS IS OF BULK AT MOST 1048576: true; the input reads as it did. -/
def mergeSeesUptoRow : OpenClaim := { program := "ytojemmipkpckbaa", sum := "03a9d38b91a6ef26fd10187c8a09e69457d1852882e69c77dc07fe3b45236026", func := "ratline/ratlinelaw11.MergeSees", spec := "mergeSees", unfollowed := true, recurses := true, plainKeys := false, apart := false, narrowed := true }
def MergeSeesUptoSaid : Prop := mergeSeesUptoRow.holds Try.pinned (OpenSpec.upto mergeSeesSpec)

/-- 'ratlinelaw11.MergeLater', WHERE WHAT IT READS IS OF BULK AT MOST 1048576: true; the input reads as it did. -/
def mergeLaterUptoRow : OpenClaim := { program := "ytojemmipkpckbaa", sum := "03a9d38b91a6ef26fd10187c8a09e69457d1852882e69c77dc07fe3b45236026", func := "ratline/ratlinelaw11.MergeLater", spec := "mergeLater", unfollowed := true, recurses := true, plainKeys := false, apart := false, narrowed := true }
def MergeLaterUptoSaid : Prop := mergeLaterUptoRow.holds Try.pinned (OpenSpec.upto mergeLaterSpec)

/-- 'ratlinelaw11.MergeSpread', WHERE WHAT IT READS IS OF BULK AT MOST 1048576: true; the input reads as it did. -/
def mergeSpreadUptoRow : OpenClaim := { program := "ytojemmipkpckbaa", sum := "03a9d38b91a6ef26fd10187c8a09e69457d1852882e69c77dc07fe3b45236026", func := "ratline/ratlinelaw11.MergeSpread", spec := "mergeSpread", unfollowed := true, recurses := true, plainKeys := false, apart := false, narrowed := true }
def MergeSpreadUptoSaid : Prop := mergeSpreadUptoRow.holds Try.pinned (OpenSpec.upto mergeSpreadSpec)

/-- 'ratlinelaw11.MergeAll', WHERE WHAT IT READS IS OF BULK AT MOST 1048576: true; the input reads as it did. -/
def mergeAllUptoRow : OpenClaim := { program := "ytojemmipkpckbaa", sum := "03a9d38b91a6ef26fd10187c8a09e69457d1852882e69c77dc07fe3b45236026", func := "ratline/ratlinelaw11.MergeAll", spec := "mergeAll", unfollowed := true, recurses := true, plainKeys := false, apart := false, narrowed := true }
def MergeAllUptoSaid : Prop := mergeAllUptoRow.holds Try.pinned (OpenSpec.upto mergeAllSpec)

/-- 'ratlinelaw03.IkeyOrder', WHERE WHAT IT READS IS OF BULK AT MOST 1048576: true; the input reads as it did. -/
def ikeyOrderUptoRow : OpenClaim := { program := "ytojemmipkpckbaa", sum := "03a9d38b91a6ef26fd10187c8a09e69457d1852882e69c77dc07fe3b45236026", func := "ratline/ratlinelaw03.IkeyOrder", spec := "ikeyOrder", unfollowed := true, recurses := true, plainKeys := false, apart := false, narrowed := true }
def IkeyOrderUptoSaid : Prop := ikeyOrderUptoRow.holds Try.pinned (OpenSpec.upto ikeyOrderSpec)

/-- 'ratlinelaw03.IkeySought', WHERE WHAT IT READS IS OF BULK AT MOST 1048576: true; the input reads as it did. -/
def ikeySoughtUptoRow : OpenClaim := { program := "ytojemmipkpckbaa", sum := "03a9d38b91a6ef26fd10187c8a09e69457d1852882e69c77dc07fe3b45236026", func := "ratline/ratlinelaw03.IkeySought", spec := "ikeySought", unfollowed := true, recurses := true, plainKeys := false, apart := false, narrowed := true }
def IkeySoughtUptoSaid : Prop := ikeySoughtUptoRow.holds Try.pinned (OpenSpec.upto ikeySoughtSpec)

/-- 'ratlinelaw03.IkeyBack', WHERE WHAT IT READS IS OF BULK AT MOST 1048576: true; the input reads as it did. -/
def ikeyBackUptoRow : OpenClaim := { program := "ytojemmipkpckbaa", sum := "03a9d38b91a6ef26fd10187c8a09e69457d1852882e69c77dc07fe3b45236026", func := "ratline/ratlinelaw03.IkeyBack", spec := "ikeyBack", unfollowed := true, recurses := true, plainKeys := false, apart := false, narrowed := true }
def IkeyBackUptoSaid : Prop := ikeyBackUptoRow.holds Try.pinned (OpenSpec.upto ikeyBackSpec)

/-- 'ratlinelaw03.IkeyRight', WHERE WHAT IT READS IS OF BULK AT MOST 1048576: true; the input reads as it did. -/
def ikeyRightUptoRow : OpenClaim := { program := "ytojemmipkpckbaa", sum := "03a9d38b91a6ef26fd10187c8a09e69457d1852882e69c77dc07fe3b45236026", func := "ratline/ratlinelaw03.IkeyRight", spec := "ikeyRight", unfollowed := true, recurses := true, plainKeys := false, apart := false, narrowed := true }
def IkeyRightUptoSaid : Prop := ikeyRightUptoRow.holds Try.pinned (OpenSpec.upto ikeyRightSpec)

/-- 'ratlinelaw03.IkeyTells', WHERE WHAT IT READS IS OF BULK AT MOST 1048576: true; the input reads as it did. -/
def ikeyTellsUptoRow : OpenClaim := { program := "ytojemmipkpckbaa", sum := "03a9d38b91a6ef26fd10187c8a09e69457d1852882e69c77dc07fe3b45236026", func := "ratline/ratlinelaw03.IkeyTells", spec := "ikeyTells", unfollowed := true, recurses := true, plainKeys := false, apart := false, narrowed := true }
def IkeyTellsUptoSaid : Prop := ikeyTellsUptoRow.holds Try.pinned (OpenSpec.upto ikeyTellsSpec)

/-- 'ratlinelaw03.IkeyRising', WHERE WHAT IT READS IS OF BULK AT MOST 1048576: true; the input reads as it did. -/
def ikeyRisingUptoRow : OpenClaim := { program := "ytojemmipkpckbaa", sum := "03a9d38b91a6ef26fd10187c8a09e69457d1852882e69c77dc07fe3b45236026", func := "ratline/ratlinelaw03.IkeyRising", spec := "ikeyRising", unfollowed := true, recurses := true, plainKeys := false, apart := false, narrowed := true }
def IkeyRisingUptoSaid : Prop := ikeyRisingUptoRow.holds Try.pinned (OpenSpec.upto ikeyRisingSpec)

end Rows
end Go.Proofs.Ytojemmipkpckbaa
