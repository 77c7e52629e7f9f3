/-
  No cell of these rows narrows 'for every input' (looked for: loops, veiled, ifaces, maps, wideKeys, modest, calm, conditions, laid).
  DERIVED. THE GIVEN ROWS OF THIS SEAT. 5 by the template 'for every input the law returns true; each argument reads behind the call as it read before'; 0 by the template 'total and deterministic' (their statements: YtcagajobpnpicaaTotals.lean).
  GIVEN WITH THE SEED: the statements are not yours to turn. If you find one false, say at which input.
  Laid BY PROGRAM, IN A SANDBOX (cutbox-rows.mjs): the forced cells as the released guide's own fill.sh prints them over the translation bf46546971af0ede… (all of the seat's roots in one cut). By AI agents, Wed Nov 11 2026. No macro, syntax, notation, axiom, sorry.
-/
import Derived.Test.YtcagajobpnpicaaChecked
import GoSem.Claim
import GoSem.ClaimJoined
import GoSem.ClaimMapViews
import Derived.JoinedTies
import Derived.KernelRfl
namespace Go.Proofs.Ytcagajobpnpicaa
/- THE CELL 'sum', in the pinned program and in every row, IS THE sha256 OF THE DUMP (.gsa) THAT YtcagajobpnpicaaProg.lean LOADS. Nothing in Lean hashes anything: it is a label: what it is worth is what the hold of that sum in a sandbox is worth. -/
noncomputable def Try.pinned : Pinned := { name := "ytcagajobpnpicaa", sum := "bf46546971af0ede15d0ec57ac38a3acf4abe1abfd54522d4df7389890d75cda", checked := Try.checked }
namespace Rows
def none {H : Type} : Left H := { results := [], args := [] }

/-- 'ratlinelaw09.EditTells': WHATEVER THE INPUT: true; the input reads as it did. -/
def editTellsSpec : ChangeSpec := { name := "editTells", fn := fun _ => fun
  | [d1, d2, d3, d4] => { results := [.lit (.bool true)], args := [d1, d2, d3, d4] }
  | _ => none }
def editTellsRow : OpenClaim := { program := "ytcagajobpnpicaa", sum := "bf46546971af0ede15d0ec57ac38a3acf4abe1abfd54522d4df7389890d75cda", func := "ratline/ratlinelaw09.EditTells", spec := "editTells", unfollowed := true, recurses := true, apart := false }
def EditTellsSaid : Prop := editTellsRow.holds Try.pinned (OpenSpec.ofChange editTellsSpec)

/-- ITS FALSE NEIGHBOUR: 'it returns false'. Refute it at one input. -/
def editTellsWrong : ChangeSpec := { name := "editTells", fn := fun _ => fun
  | [d1, d2, d3, d4] => { results := [.lit (.bool false)], args := [d1, d2, d3, d4] }
  | _ => none }
def EditTellsWrongFalsely : Prop := editTellsRow.holds Try.pinned (OpenSpec.ofChange editTellsWrong)

/-- 'ratlinelaw10.ManifestFront': WHATEVER THE INPUT: true; the input reads as it did. -/
def manifestFrontSpec : ChangeSpec := { name := "manifestFront", fn := fun _ => fun
  | [d1, d2] => { results := [.lit (.bool true)], args := [d1, d2] }
  | _ => none }
def manifestFrontRow : OpenClaim := { program := "ytcagajobpnpicaa", sum := "bf46546971af0ede15d0ec57ac38a3acf4abe1abfd54522d4df7389890d75cda", func := "ratline/ratlinelaw10.ManifestFront", spec := "manifestFront", unfollowed := true, recurses := true, apart := false }
def ManifestFrontSaid : Prop := manifestFrontRow.holds Try.pinned (OpenSpec.ofChange manifestFrontSpec)

/-- ITS FALSE NEIGHBOUR: 'it returns false'. Refute it at one input. -/
def manifestFrontWrong : ChangeSpec := { name := "manifestFront", fn := fun _ => fun
  | [d1, d2] => { results := [.lit (.bool false)], args := [d1, d2] }
  | _ => none }
def ManifestFrontWrongFalsely : Prop := manifestFrontRow.holds Try.pinned (OpenSpec.ofChange manifestFrontWrong)

/-- 'ratlinelaw10.ManifestDamage': WHATEVER THE INPUT: true; the input reads as it did. -/
def manifestDamageSpec : ChangeSpec := { name := "manifestDamage", fn := fun _ => fun
  | [d1, d2, d3, d4, d5] => { results := [.lit (.bool true)], args := [d1, d2, d3, d4, d5] }
  | _ => none }
def manifestDamageRow : OpenClaim := { program := "ytcagajobpnpicaa", sum := "bf46546971af0ede15d0ec57ac38a3acf4abe1abfd54522d4df7389890d75cda", func := "ratline/ratlinelaw10.ManifestDamage", spec := "manifestDamage", unfollowed := true, recurses := true, apart := false }
def ManifestDamageSaid : Prop := manifestDamageRow.holds Try.pinned (OpenSpec.ofChange manifestDamageSpec)

/-- ITS FALSE NEIGHBOUR: 'it returns false'. Refute it at one input. -/
def manifestDamageWrong : ChangeSpec := { name := "manifestDamage", fn := fun _ => fun
  | [d1, d2, d3, d4, d5] => { results := [.lit (.bool false)], args := [d1, d2, d3, d4, d5] }
  | _ => none }
def ManifestDamageWrongFalsely : Prop := manifestDamageRow.holds Try.pinned (OpenSpec.ofChange manifestDamageWrong)

/-- 'ratlinelaw10.ManifestTells': WHATEVER THE INPUT: true; the input reads as it did. -/
def manifestTellsSpec : ChangeSpec := { name := "manifestTells", fn := fun _ => fun
  | [d1, d2, d3] => { results := [.lit (.bool true)], args := [d1, d2, d3] }
  | _ => none }
def manifestTellsRow : OpenClaim := { program := "ytcagajobpnpicaa", sum := "bf46546971af0ede15d0ec57ac38a3acf4abe1abfd54522d4df7389890d75cda", func := "ratline/ratlinelaw10.ManifestTells", spec := "manifestTells", unfollowed := true, recurses := true, apart := false }
def ManifestTellsSaid : Prop := manifestTellsRow.holds Try.pinned (OpenSpec.ofChange manifestTellsSpec)

/-- ITS FALSE NEIGHBOUR: 'it returns false'. Refute it at one input. -/
def manifestTellsWrong : ChangeSpec := { name := "manifestTells", fn := fun _ => fun
  | [d1, d2, d3] => { results := [.lit (.bool false)], args := [d1, d2, d3] }
  | _ => none }
def ManifestTellsWrongFalsely : Prop := manifestTellsRow.holds Try.pinned (OpenSpec.ofChange manifestTellsWrong)

/-- 'ratlinelaw10.ManifestOnce': WHATEVER THE INPUT: true; the input reads as it did. -/
def manifestOnceSpec : ChangeSpec := { name := "manifestOnce", fn := fun _ => fun
  | [d1, d2] => { results := [.lit (.bool true)], args := [d1, d2] }
  | _ => none }
def manifestOnceRow : OpenClaim := { program := "ytcagajobpnpicaa", sum := "bf46546971af0ede15d0ec57ac38a3acf4abe1abfd54522d4df7389890d75cda", func := "ratline/ratlinelaw10.ManifestOnce", spec := "manifestOnce", unfollowed := true, recurses := true, apart := false }
def ManifestOnceSaid : Prop := manifestOnceRow.holds Try.pinned (OpenSpec.ofChange manifestOnceSpec)

/-- ITS FALSE NEIGHBOUR: 'it returns false'. Refute it at one input. -/
def manifestOnceWrong : ChangeSpec := { name := "manifestOnce", fn := fun _ => fun
  | [d1, d2] => { results := [.lit (.bool false)], args := [d1, d2] }
  | _ => none }
def ManifestOnceWrongFalsely : Prop := manifestOnceRow.holds Try.pinned (OpenSpec.ofChange manifestOnceWrong)

/- THE SECOND FORM. 'bulk': how many values and letters a reading holds, each counted each time it is reached (what is shared counts as often as it is met; a slice's spare places count too). A statement '..UptoSaid' is the law's where the arguments, and the package variables that the reading takes, are together of bulk at most 1048576: NARROWER than '..Said'. Prove '..Said' where nothing that the law and all that it calls make is longer than what came in: it says more and counts as full. Else prove '..UptoSaid'. A law counts once. -/
mutual
def uptoBulk {H : Type} : DataW H → Nat
  | .lit (.string bytes) => bytes.length + 1
  | .lit _ => 1
  | .nil => 1
  | .ptr d => uptoBulk d + 1
  | .slice elems spare => uptoBulkAll elems + uptoBulkAll spare + 1
  | .agg parts => uptoBulkAll parts + 1
  | .iface _ d => uptoBulk d + 1
  | .map entries => uptoBulkEntries entries + 1
  | .held _ => 1
def uptoBulkAll {H : Type} : List (DataW H) → Nat
  | [] => 0
  | d :: r => uptoBulk d + uptoBulkAll r
def uptoBulkEntries {H : Type} : List (Lit × DataW H) → Nat
  | [] => 0
  | x :: r => uptoBulkEntry x + uptoBulkEntries r
def uptoBulkEntry {H : Type} : Lit × DataW H → Nat
  | (.string bytes, d) => bytes.length + uptoBulk d + 1
  | (_, d) => uptoBulk d + 1
 end
def uptoSmall : (H : Type) → List (DataW H) → Bool := fun _ ds => decide (uptoBulkAll ds ≤ 1048576)
def OpenSpec.upto (s : _root_.Go.ChangeSpec) : _root_.Go.OpenSpec := { _root_.Go.OpenSpec.ofChange s with cond := some uptoSmall }

/-- 'ratlinelaw09.EditTells', WHERE WHAT IT READS IS OF BULK AT MOST 1048576: true; the input reads as it did. -/
def editTellsUptoRow : OpenClaim := { program := "ytcagajobpnpicaa", sum := "bf46546971af0ede15d0ec57ac38a3acf4abe1abfd54522d4df7389890d75cda", func := "ratline/ratlinelaw09.EditTells", spec := "editTells", unfollowed := true, recurses := true, apart := false, narrowed := true }
def EditTellsUptoSaid : Prop := editTellsUptoRow.holds Try.pinned (OpenSpec.upto editTellsSpec)

/-- 'ratlinelaw10.ManifestFront', WHERE WHAT IT READS IS OF BULK AT MOST 1048576: true; the input reads as it did. -/
def manifestFrontUptoRow : OpenClaim := { program := "ytcagajobpnpicaa", sum := "bf46546971af0ede15d0ec57ac38a3acf4abe1abfd54522d4df7389890d75cda", func := "ratline/ratlinelaw10.ManifestFront", spec := "manifestFront", unfollowed := true, recurses := true, apart := false, narrowed := true }
def ManifestFrontUptoSaid : Prop := manifestFrontUptoRow.holds Try.pinned (OpenSpec.upto manifestFrontSpec)

/-- 'ratlinelaw10.ManifestDamage', WHERE WHAT IT READS IS OF BULK AT MOST 1048576: true; the input reads as it did. -/
def manifestDamageUptoRow : OpenClaim := { program := "ytcagajobpnpicaa", sum := "bf46546971af0ede15d0ec57ac38a3acf4abe1abfd54522d4df7389890d75cda", func := "ratline/ratlinelaw10.ManifestDamage", spec := "manifestDamage", unfollowed := true, recurses := true, apart := false, narrowed := true }
def ManifestDamageUptoSaid : Prop := manifestDamageUptoRow.holds Try.pinned (OpenSpec.upto manifestDamageSpec)

/-- 'ratlinelaw10.ManifestTells', WHERE WHAT IT READS IS OF BULK AT MOST 1048576: true; the input reads as it did. -/
def manifestTellsUptoRow : OpenClaim := { program := "ytcagajobpnpicaa", sum := "bf46546971af0ede15d0ec57ac38a3acf4abe1abfd54522d4df7389890d75cda", func := "ratline/ratlinelaw10.ManifestTells", spec := "manifestTells", unfollowed := true, recurses := true, apart := false, narrowed := true }
def ManifestTellsUptoSaid : Prop := manifestTellsUptoRow.holds Try.pinned (OpenSpec.upto manifestTellsSpec)

/-- 'ratlinelaw10.ManifestOnce', WHERE WHAT IT READS IS OF BULK AT MOST 1048576: true; the input reads as it did. -/
def manifestOnceUptoRow : OpenClaim := { program := "ytcagajobpnpicaa", sum := "bf46546971af0ede15d0ec57ac38a3acf4abe1abfd54522d4df7389890d75cda", func := "ratline/ratlinelaw10.ManifestOnce", spec := "manifestOnce", unfollowed := true, recurses := true, apart := false, narrowed := true }
def ManifestOnceUptoSaid : Prop := manifestOnceUptoRow.holds Try.pinned (OpenSpec.upto manifestOnceSpec)

end Rows
end Go.Proofs.Ytcagajobpnpicaa
