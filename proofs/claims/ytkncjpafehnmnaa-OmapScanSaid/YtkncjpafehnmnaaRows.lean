/-
  No cell of these rows narrows 'for every input' (looked for: loops, veiled, ifaces, maps, wideKeys, modest, calm, conditions, laid).
  DERIVED. THE GIVEN ROWS OF THIS SEAT. 10 by the template 'for every input the law returns true; each argument reads behind the call as it read before'; 0 by the template 'total and deterministic' (their statements: YtkncjpafehnmnaaTotals.lean).
  GIVEN WITH THE SEED: the statements are not yours to turn. If you find one false, say at which input.
  Laid BY PROGRAM, IN A SANDBOX (cutbox-rows.mjs): the forced cells as the released guide's own fill.sh prints them over the translation 309b86f42a152997… (all of the seat's roots in one cut). By AI agents, Wed Nov 11 2026. No macro, syntax, notation, axiom, sorry.
-/
import Derived.Test.YtkncjpafehnmnaaChecked
import GoSem.Claim
import GoSem.ClaimJoined
import GoSem.ClaimMapViews
import Derived.JoinedTies
import Derived.KernelRfl
namespace Go.Proofs.Ytkncjpafehnmnaa
/- THE CELL 'sum', in the pinned program and in every row, IS THE sha256 OF THE DUMP (.gsa) THAT YtkncjpafehnmnaaProg.lean LOADS. Nothing in Lean hashes anything: it is a label: what it is worth is what the hold of that sum in a sandbox is worth. -/
noncomputable def Try.pinned : Pinned := { name := "ytkncjpafehnmnaa", sum := "309b86f42a15299772cacb56c36791ecc3e6b459d389279bd385aba8889c82e2", checked := Try.checked }
namespace Rows
def none {H : Type} : Left H := { results := [], args := [] }

/-- 'ratlinelaw12.OmapTells': WHATEVER THE INPUT: true; the input reads as it did. -/
def omapTellsSpec : ChangeSpec := { name := "omapTells", fn := fun _ => fun
  | [d1, d2, d3, d4, d5] => { results := [.lit (.bool true)], args := [d1, d2, d3, d4, d5] }
  | _ => none }
def omapTellsRow : OpenClaim := { program := "ytkncjpafehnmnaa", sum := "309b86f42a15299772cacb56c36791ecc3e6b459d389279bd385aba8889c82e2", func := "ratline/ratlinelaw12.OmapTells", spec := "omapTells", inPlace := ["slices.overlaps[ratline/api.Pair]"], unfollowed := true, recurses := true, apart := false }
def OmapTellsSaid : Prop := omapTellsRow.holds Try.pinned (OpenSpec.ofChange omapTellsSpec)

/-- ITS FALSE NEIGHBOUR: 'it returns false'. Refute it at one input. -/
def omapTellsWrong : ChangeSpec := { name := "omapTells", fn := fun _ => fun
  | [d1, d2, d3, d4, d5] => { results := [.lit (.bool false)], args := [d1, d2, d3, d4, d5] }
  | _ => none }
def OmapTellsWrongFalsely : Prop := omapTellsRow.holds Try.pinned (OpenSpec.ofChange omapTellsWrong)

/-- 'ratlinelaw12.OmapLast': WHATEVER THE INPUT: true; the input reads as it did. -/
def omapLastSpec : ChangeSpec := { name := "omapLast", fn := fun _ => fun
  | [d1, d2] => { results := [.lit (.bool true)], args := [d1, d2] }
  | _ => none }
def omapLastRow : OpenClaim := { program := "ytkncjpafehnmnaa", sum := "309b86f42a15299772cacb56c36791ecc3e6b459d389279bd385aba8889c82e2", func := "ratline/ratlinelaw12.OmapLast", spec := "omapLast", inPlace := ["slices.overlaps[ratline/api.Pair]"], unfollowed := true, recurses := true, apart := false }
def OmapLastSaid : Prop := omapLastRow.holds Try.pinned (OpenSpec.ofChange omapLastSpec)

/-- ITS FALSE NEIGHBOUR: 'it returns false'. Refute it at one input. -/
def omapLastWrong : ChangeSpec := { name := "omapLast", fn := fun _ => fun
  | [d1, d2] => { results := [.lit (.bool false)], args := [d1, d2] }
  | _ => none }
def OmapLastWrongFalsely : Prop := omapLastRow.holds Try.pinned (OpenSpec.ofChange omapLastWrong)

/-- 'ratlinelaw12.OmapScan': WHATEVER THE INPUT: true; the input reads as it did. -/
def omapScanSpec : ChangeSpec := { name := "omapScan", fn := fun _ => fun
  | [d1, d2, d3, d4] => { results := [.lit (.bool true)], args := [d1, d2, d3, d4] }
  | _ => none }
def omapScanRow : OpenClaim := { program := "ytkncjpafehnmnaa", sum := "309b86f42a15299772cacb56c36791ecc3e6b459d389279bd385aba8889c82e2", func := "ratline/ratlinelaw12.OmapScan", spec := "omapScan", inPlace := ["slices.overlaps[ratline/api.Pair]"], unfollowed := true, recurses := true, apart := false }
def OmapScanSaid : Prop := omapScanRow.holds Try.pinned (OpenSpec.ofChange omapScanSpec)

/-- ITS FALSE NEIGHBOUR: 'it returns false'. Refute it at one input. -/
def omapScanWrong : ChangeSpec := { name := "omapScan", fn := fun _ => fun
  | [d1, d2, d3, d4] => { results := [.lit (.bool false)], args := [d1, d2, d3, d4] }
  | _ => none }
def OmapScanWrongFalsely : Prop := omapScanRow.holds Try.pinned (OpenSpec.ofChange omapScanWrong)

/-- 'ratlinelaw12.OmapApart': WHATEVER THE INPUT: true; the input reads as it did. -/
def omapApartSpec : ChangeSpec := { name := "omapApart", fn := fun _ => fun
  | [d1, d2] => { results := [.lit (.bool true)], args := [d1, d2] }
  | _ => none }
def omapApartRow : OpenClaim := { program := "ytkncjpafehnmnaa", sum := "309b86f42a15299772cacb56c36791ecc3e6b459d389279bd385aba8889c82e2", func := "ratline/ratlinelaw12.OmapApart", spec := "omapApart", inPlace := ["slices.overlaps[ratline/api.Pair]"], unfollowed := true, recurses := true, apart := false }
def OmapApartSaid : Prop := omapApartRow.holds Try.pinned (OpenSpec.ofChange omapApartSpec)

/-- ITS FALSE NEIGHBOUR: 'it returns false'. Refute it at one input. -/
def omapApartWrong : ChangeSpec := { name := "omapApart", fn := fun _ => fun
  | [d1, d2] => { results := [.lit (.bool false)], args := [d1, d2] }
  | _ => none }
def OmapApartWrongFalsely : Prop := omapApartRow.holds Try.pinned (OpenSpec.ofChange omapApartWrong)

/-- 'ratlinelaw12.OmapSees': WHATEVER THE INPUT: true; the input reads as it did. -/
def omapSeesSpec : ChangeSpec := { name := "omapSees", fn := fun _ => fun
  | [d1, d2, d3, d4, d5] => { results := [.lit (.bool true)], args := [d1, d2, d3, d4, d5] }
  | _ => none }
def omapSeesRow : OpenClaim := { program := "ytkncjpafehnmnaa", sum := "309b86f42a15299772cacb56c36791ecc3e6b459d389279bd385aba8889c82e2", func := "ratline/ratlinelaw12.OmapSees", spec := "omapSees", inPlace := ["slices.overlaps[ratline/api.Pair]"], unfollowed := true, recurses := true, apart := false }
def OmapSeesSaid : Prop := omapSeesRow.holds Try.pinned (OpenSpec.ofChange omapSeesSpec)

/-- ITS FALSE NEIGHBOUR: 'it returns false'. Refute it at one input. -/
def omapSeesWrong : ChangeSpec := { name := "omapSees", fn := fun _ => fun
  | [d1, d2, d3, d4, d5] => { results := [.lit (.bool false)], args := [d1, d2, d3, d4, d5] }
  | _ => none }
def OmapSeesWrongFalsely : Prop := omapSeesRow.holds Try.pinned (OpenSpec.ofChange omapSeesWrong)

/-- 'ratlinelaw15.OrderTells': WHATEVER THE INPUT: true; the input reads as it did. -/
def orderTellsSpec : ChangeSpec := { name := "orderTells", fn := fun _ => fun
  | [d1, d2, d3] => { results := [.lit (.bool true)], args := [d1, d2, d3] }
  | _ => none }
def orderTellsRow : OpenClaim := { program := "ytkncjpafehnmnaa", sum := "309b86f42a15299772cacb56c36791ecc3e6b459d389279bd385aba8889c82e2", func := "ratline/ratlinelaw15.OrderTells", spec := "orderTells", unfollowed := true, recurses := true, apart := false }
def OrderTellsSaid : Prop := orderTellsRow.holds Try.pinned (OpenSpec.ofChange orderTellsSpec)

/-- ITS FALSE NEIGHBOUR: 'it returns false'. Refute it at one input. -/
def orderTellsWrong : ChangeSpec := { name := "orderTells", fn := fun _ => fun
  | [d1, d2, d3] => { results := [.lit (.bool false)], args := [d1, d2, d3] }
  | _ => none }
def OrderTellsWrongFalsely : Prop := orderTellsRow.holds Try.pinned (OpenSpec.ofChange orderTellsWrong)

/-- 'ratlinelaw15.OrderClocks': WHATEVER THE INPUT: true; the input reads as it did. -/
def orderClocksSpec : ChangeSpec := { name := "orderClocks", fn := fun _ => fun
  | [d1, d2, d3, d4] => { results := [.lit (.bool true)], args := [d1, d2, d3, d4] }
  | _ => none }
def orderClocksRow : OpenClaim := { program := "ytkncjpafehnmnaa", sum := "309b86f42a15299772cacb56c36791ecc3e6b459d389279bd385aba8889c82e2", func := "ratline/ratlinelaw15.OrderClocks", spec := "orderClocks", unfollowed := true, recurses := true, apart := false }
def OrderClocksSaid : Prop := orderClocksRow.holds Try.pinned (OpenSpec.ofChange orderClocksSpec)

/-- ITS FALSE NEIGHBOUR: 'it returns false'. Refute it at one input. -/
def orderClocksWrong : ChangeSpec := { name := "orderClocks", fn := fun _ => fun
  | [d1, d2, d3, d4] => { results := [.lit (.bool false)], args := [d1, d2, d3, d4] }
  | _ => none }
def OrderClocksWrongFalsely : Prop := orderClocksRow.holds Try.pinned (OpenSpec.ofChange orderClocksWrong)

/-- 'ratlinelaw15.OrderMutex': WHATEVER THE INPUT: true; the input reads as it did. -/
def orderMutexSpec : ChangeSpec := { name := "orderMutex", fn := fun _ => fun
  | [d] => { results := [.lit (.bool true)], args := [d] }
  | _ => none }
def orderMutexRow : OpenClaim := { program := "ytkncjpafehnmnaa", sum := "309b86f42a15299772cacb56c36791ecc3e6b459d389279bd385aba8889c82e2", func := "ratline/ratlinelaw15.OrderMutex", spec := "orderMutex", unfollowed := true, recurses := true, apart := false }
def OrderMutexSaid : Prop := orderMutexRow.holds Try.pinned (OpenSpec.ofChange orderMutexSpec)

/-- ITS FALSE NEIGHBOUR: 'it returns false'. Refute it at one input. -/
def orderMutexWrong : ChangeSpec := { name := "orderMutex", fn := fun _ => fun
  | [d] => { results := [.lit (.bool false)], args := [d] }
  | _ => none }
def OrderMutexWrongFalsely : Prop := orderMutexRow.holds Try.pinned (OpenSpec.ofChange orderMutexWrong)

/-- 'ratlinelaw15.OrderPublish': WHATEVER THE INPUT: true; the input reads as it did. -/
def orderPublishSpec : ChangeSpec := { name := "orderPublish", fn := fun _ => fun
  | [d1, d2] => { results := [.lit (.bool true)], args := [d1, d2] }
  | _ => none }
def orderPublishRow : OpenClaim := { program := "ytkncjpafehnmnaa", sum := "309b86f42a15299772cacb56c36791ecc3e6b459d389279bd385aba8889c82e2", func := "ratline/ratlinelaw15.OrderPublish", spec := "orderPublish", unfollowed := true, recurses := true, apart := false }
def OrderPublishSaid : Prop := orderPublishRow.holds Try.pinned (OpenSpec.ofChange orderPublishSpec)

/-- ITS FALSE NEIGHBOUR: 'it returns false'. Refute it at one input. -/
def orderPublishWrong : ChangeSpec := { name := "orderPublish", fn := fun _ => fun
  | [d1, d2] => { results := [.lit (.bool false)], args := [d1, d2] }
  | _ => none }
def OrderPublishWrongFalsely : Prop := orderPublishRow.holds Try.pinned (OpenSpec.ofChange orderPublishWrong)

/-- 'ratlinelaw15.OrderLonger': WHATEVER THE INPUT: true; the input reads as it did. -/
def orderLongerSpec : ChangeSpec := { name := "orderLonger", fn := fun _ => fun
  | [d1, d2] => { results := [.lit (.bool true)], args := [d1, d2] }
  | _ => none }
def orderLongerRow : OpenClaim := { program := "ytkncjpafehnmnaa", sum := "309b86f42a15299772cacb56c36791ecc3e6b459d389279bd385aba8889c82e2", func := "ratline/ratlinelaw15.OrderLonger", spec := "orderLonger", unfollowed := true, recurses := true, apart := false }
def OrderLongerSaid : Prop := orderLongerRow.holds Try.pinned (OpenSpec.ofChange orderLongerSpec)

/-- ITS FALSE NEIGHBOUR: 'it returns false'. Refute it at one input. -/
def orderLongerWrong : ChangeSpec := { name := "orderLonger", fn := fun _ => fun
  | [d1, d2] => { results := [.lit (.bool false)], args := [d1, d2] }
  | _ => none }
def OrderLongerWrongFalsely : Prop := orderLongerRow.holds Try.pinned (OpenSpec.ofChange orderLongerWrong)

/- THE SECOND FORM. 'bulk': how many values and letters a reading holds, each counted each time it is reached (what is shared counts as often as it is met; a slice's spare places count too). A statement '..UptoSaid' is the law's where the arguments, and the package variables that the reading takes, are together of bulk at most 1048576: NARROWER than '..Said'. Prove '..Said' where nothing that the law and all that it calls make is longer than what came in: it says more and counts as full. Else prove '..UptoSaid'. A law counts once. -/
mutual
def uptoBulk {H : Type} : DataW H → Nat
  | .lit (.string bytes) => bytes.length + 1
  | .lit _ => 1
  | .nil => 1
  | .ptr d => uptoBulk d + 1
  | .slice elems spare => uptoBulkAll elems + uptoBulkAll spare + 1
  | .agg parts => uptoBulkAll parts + 1
  | .iface _ d => uptoBulk d + 1
  | .map entries => uptoBulkEntries entries + 1
  | .held _ => 1
def uptoBulkAll {H : Type} : List (DataW H) → Nat
  | [] => 0
  | d :: r => uptoBulk d + uptoBulkAll r
def uptoBulkEntries {H : Type} : List (Lit × DataW H) → Nat
  | [] => 0
  | x :: r => uptoBulkEntry x + uptoBulkEntries r
def uptoBulkEntry {H : Type} : Lit × DataW H → Nat
  | (.string bytes, d) => bytes.length + uptoBulk d + 1
  | (_, d) => uptoBulk d + 1
 end
def uptoSmall : (H : Type) → List (DataW H) → Bool := fun _ ds => decide (uptoBulkAll ds ≤ 1048576)
def OpenSpec.upto (s : _root_.Go.ChangeSpec) : _root_.Go.OpenSpec := { _root_.Go.OpenSpec.ofChange s with cond := some uptoSmall }

/-- 'ratlinelaw12.OmapTells', WHERE WHAT IT READS IS OF BULK AT MOST 1048576: true; the input reads as it did. -/
def omapTellsUptoRow : OpenClaim := { program := "ytkncjpafehnmnaa", sum := "309b86f42a15299772cacb56c36791ecc3e6b459d389279bd385aba8889c82e2", func := "ratline/ratlinelaw12.OmapTells", spec := "omapTells", inPlace := ["slices.overlaps[ratline/api.Pair]"], unfollowed := true, recurses := true, apart := false, narrowed := true }
def OmapTellsUptoSaid : Prop := omapTellsUptoRow.holds Try.pinned (OpenSpec.upto omapTellsSpec)

/-- 'ratlinelaw12.OmapLast', WHERE WHAT IT READS IS OF BULK AT MOST 1048576: true; the input reads as it did. -/
def omapLastUptoRow : OpenClaim := { program := "ytkncjpafehnmnaa", sum := "309b86f42a15299772cacb56c36791ecc3e6b459d389279bd385aba8889c82e2", func := "ratline/ratlinelaw12.OmapLast", spec := "omapLast", inPlace := ["slices.overlaps[ratline/api.Pair]"], unfollowed := true, recurses := true, apart := false, narrowed := true }
def OmapLastUptoSaid : Prop := omapLastUptoRow.holds Try.pinned (OpenSpec.upto omapLastSpec)

/-- 'ratlinelaw12.OmapScan', WHERE WHAT IT READS IS OF BULK AT MOST 1048576: true; the input reads as it did. -/
def omapScanUptoRow : OpenClaim := { program := "ytkncjpafehnmnaa", sum := "309b86f42a15299772cacb56c36791ecc3e6b459d389279bd385aba8889c82e2", func := "ratline/ratlinelaw12.OmapScan", spec := "omapScan", inPlace := ["slices.overlaps[ratline/api.Pair]"], unfollowed := true, recurses := true, apart := false, narrowed := true }
def OmapScanUptoSaid : Prop := omapScanUptoRow.holds Try.pinned (OpenSpec.upto omapScanSpec)

/-- 'ratlinelaw12.OmapApart', WHERE WHAT IT READS IS OF BULK AT MOST 1048576: true; the input reads as it did. -/
def omapApartUptoRow : OpenClaim := { program := "ytkncjpafehnmnaa", sum := "309b86f42a15299772cacb56c36791ecc3e6b459d389279bd385aba8889c82e2", func := "ratline/ratlinelaw12.OmapApart", spec := "omapApart", inPlace := ["slices.overlaps[ratline/api.Pair]"], unfollowed := true, recurses := true, apart := false, narrowed := true }
def OmapApartUptoSaid : Prop := omapApartUptoRow.holds Try.pinned (OpenSpec.upto omapApartSpec)

/-- 'ratlinelaw12.OmapSees', WHERE WHAT IT READS IS OF BULK AT MOST 1048576: true; the input reads as it did. -/
def omapSeesUptoRow : OpenClaim := { program := "ytkncjpafehnmnaa", sum := "309b86f42a15299772cacb56c36791ecc3e6b459d389279bd385aba8889c82e2", func := "ratline/ratlinelaw12.OmapSees", spec := "omapSees", inPlace := ["slices.overlaps[ratline/api.Pair]"], unfollowed := true, recurses := true, apart := false, narrowed := true }
def OmapSeesUptoSaid : Prop := omapSeesUptoRow.holds Try.pinned (OpenSpec.upto omapSeesSpec)

/-- 'ratlinelaw15.OrderTells', WHERE WHAT IT READS IS OF BULK AT MOST 1048576: true; the input reads as it did. -/
def orderTellsUptoRow : OpenClaim := { program := "ytkncjpafehnmnaa", sum := "309b86f42a15299772cacb56c36791ecc3e6b459d389279bd385aba8889c82e2", func := "ratline/ratlinelaw15.OrderTells", spec := "orderTells", unfollowed := true, recurses := true, apart := false, narrowed := true }
def OrderTellsUptoSaid : Prop := orderTellsUptoRow.holds Try.pinned (OpenSpec.upto orderTellsSpec)

/-- 'ratlinelaw15.OrderClocks', WHERE WHAT IT READS IS OF BULK AT MOST 1048576: true; the input reads as it did. -/
def orderClocksUptoRow : OpenClaim := { program := "ytkncjpafehnmnaa", sum := "309b86f42a15299772cacb56c36791ecc3e6b459d389279bd385aba8889c82e2", func := "ratline/ratlinelaw15.OrderClocks", spec := "orderClocks", unfollowed := true, recurses := true, apart := false, narrowed := true }
def OrderClocksUptoSaid : Prop := orderClocksUptoRow.holds Try.pinned (OpenSpec.upto orderClocksSpec)

/-- 'ratlinelaw15.OrderMutex', WHERE WHAT IT READS IS OF BULK AT MOST 1048576: true; the input reads as it did. -/
def orderMutexUptoRow : OpenClaim := { program := "ytkncjpafehnmnaa", sum := "309b86f42a15299772cacb56c36791ecc3e6b459d389279bd385aba8889c82e2", func := "ratline/ratlinelaw15.OrderMutex", spec := "orderMutex", unfollowed := true, recurses := true, apart := false, narrowed := true }
def OrderMutexUptoSaid : Prop := orderMutexUptoRow.holds Try.pinned (OpenSpec.upto orderMutexSpec)

/-- 'ratlinelaw15.OrderPublish', WHERE WHAT IT READS IS OF BULK AT MOST 1048576: true; the input reads as it did. -/
def orderPublishUptoRow : OpenClaim := { program := "ytkncjpafehnmnaa", sum := "309b86f42a15299772cacb56c36791ecc3e6b459d389279bd385aba8889c82e2", func := "ratline/ratlinelaw15.OrderPublish", spec := "orderPublish", unfollowed := true, recurses := true, apart := false, narrowed := true }
def OrderPublishUptoSaid : Prop := orderPublishUptoRow.holds Try.pinned (OpenSpec.upto orderPublishSpec)

/-- 'ratlinelaw15.OrderLonger', WHERE WHAT IT READS IS OF BULK AT MOST 1048576: true; the input reads as it did. -/
def orderLongerUptoRow : OpenClaim := { program := "ytkncjpafehnmnaa", sum := "309b86f42a15299772cacb56c36791ecc3e6b459d389279bd385aba8889c82e2", func := "ratline/ratlinelaw15.OrderLonger", spec := "orderLonger", unfollowed := true, recurses := true, apart := false, narrowed := true }
def OrderLongerUptoSaid : Prop := orderLongerUptoRow.holds Try.pinned (OpenSpec.upto orderLongerSpec)

end Rows
end Go.Proofs.Ytkncjpafehnmnaa
