/-
  No cell of these rows narrows 'for every input' (looked for: loops, veiled, ifaces, maps, wideKeys, modest, calm, conditions, laid).
  DERIVED. THE GIVEN ROWS OF THIS SEAT. 9 by the template 'for every input the law returns true; each argument reads behind the call as it read before'; 0 by the template 'total and deterministic' (their statements: YtjcjfghcahbbmaaTotals.lean).
  GIVEN WITH THE SEED: the statements are not yours to turn. If you find one false, say at which input.
  Laid BY PROGRAM, IN A SANDBOX (cutbox-rows.mjs): the forced cells as the released guide's own fill.sh prints them over the translation 808df0f698befb9c… (all of the seat's roots in one cut). By AI agents, Wed Nov 11 2026. No macro, syntax, notation, axiom, sorry.
-/
import Derived.Test.YtjcjfghcahbbmaaChecked
import GoSem.Claim
import GoSem.ClaimJoined
import GoSem.ClaimMapViews
import Derived.JoinedTies
import Derived.KernelRfl
namespace Go.Proofs.Ytjcjfghcahbbmaa
/- THE CELL 'sum', in the pinned program and in every row, IS THE sha256 OF THE DUMP (.gsa) THAT YtjcjfghcahbbmaaProg.lean LOADS. Nothing in Lean hashes anything: it is a label: what it is worth is what the hold of that sum in a sandbox is worth. -/
noncomputable def Try.pinned : Pinned := { name := "ytjcjfghcahbbmaa", sum := "808df0f698befb9cd1758e2b855532280ac128301ae8fcce93f37e27a738fd33", checked := Try.checked }
namespace Rows
def none {H : Type} : Left H := { results := [], args := [] }

/-- 'ratlinelaw10.ManifestFront': WHATEVER THE INPUT: true; the input reads as it did. -/
def manifestFrontSpec : ChangeSpec := { name := "manifestFront", fn := fun _ => fun
  | [d1, d2] => { results := [.lit (.bool true)], args := [d1, d2] }
  | _ => none }
def manifestFrontRow : OpenClaim := { program := "ytjcjfghcahbbmaa", sum := "808df0f698befb9cd1758e2b855532280ac128301ae8fcce93f37e27a738fd33", func := "ratline/ratlinelaw10.ManifestFront", spec := "manifestFront", unfollowed := true, recurses := true, apart := false }
def ManifestFrontSaid : Prop := manifestFrontRow.holds Try.pinned (OpenSpec.ofChange manifestFrontSpec)

/-- ITS FALSE NEIGHBOUR: 'it returns false'. Refute it at one input. -/
def manifestFrontWrong : ChangeSpec := { name := "manifestFront", fn := fun _ => fun
  | [d1, d2] => { results := [.lit (.bool false)], args := [d1, d2] }
  | _ => none }
def ManifestFrontWrongFalsely : Prop := manifestFrontRow.holds Try.pinned (OpenSpec.ofChange manifestFrontWrong)

/-- 'ratlinelaw10.ManifestDamage': WHATEVER THE INPUT: true; the input reads as it did. -/
def manifestDamageSpec : ChangeSpec := { name := "manifestDamage", fn := fun _ => fun
  | [d1, d2, d3, d4, d5] => { results := [.lit (.bool true)], args := [d1, d2, d3, d4, d5] }
  | _ => none }
def manifestDamageRow : OpenClaim := { program := "ytjcjfghcahbbmaa", sum := "808df0f698befb9cd1758e2b855532280ac128301ae8fcce93f37e27a738fd33", func := "ratline/ratlinelaw10.ManifestDamage", spec := "manifestDamage", unfollowed := true, recurses := true, apart := false }
def ManifestDamageSaid : Prop := manifestDamageRow.holds Try.pinned (OpenSpec.ofChange manifestDamageSpec)

/-- ITS FALSE NEIGHBOUR: 'it returns false'. Refute it at one input. -/
def manifestDamageWrong : ChangeSpec := { name := "manifestDamage", fn := fun _ => fun
  | [d1, d2, d3, d4, d5] => { results := [.lit (.bool false)], args := [d1, d2, d3, d4, d5] }
  | _ => none }
def ManifestDamageWrongFalsely : Prop := manifestDamageRow.holds Try.pinned (OpenSpec.ofChange manifestDamageWrong)

/-- 'ratlinelaw07.BlockTells': WHATEVER THE INPUT: true; the input reads as it did. -/
def blockTellsSpec : ChangeSpec := { name := "blockTells", fn := fun _ => fun
  | [d1, d2, d3] => { results := [.lit (.bool true)], args := [d1, d2, d3] }
  | _ => none }
def blockTellsRow : OpenClaim := { program := "ytjcjfghcahbbmaa", sum := "808df0f698befb9cd1758e2b855532280ac128301ae8fcce93f37e27a738fd33", func := "ratline/ratlinelaw07.BlockTells", spec := "blockTells", unfollowed := true, recurses := true, apart := false }
def BlockTellsSaid : Prop := blockTellsRow.holds Try.pinned (OpenSpec.ofChange blockTellsSpec)

/-- ITS FALSE NEIGHBOUR: 'it returns false'. Refute it at one input. -/
def blockTellsWrong : ChangeSpec := { name := "blockTells", fn := fun _ => fun
  | [d1, d2, d3] => { results := [.lit (.bool false)], args := [d1, d2, d3] }
  | _ => none }
def BlockTellsWrongFalsely : Prop := blockTellsRow.holds Try.pinned (OpenSpec.ofChange blockTellsWrong)

/-- 'ratlinelaw07.BlockBack': WHATEVER THE INPUT: true; the input reads as it did. -/
def blockBackSpec : ChangeSpec := { name := "blockBack", fn := fun _ => fun
  | [d1, d2, d3] => { results := [.lit (.bool true)], args := [d1, d2, d3] }
  | _ => none }
def blockBackRow : OpenClaim := { program := "ytjcjfghcahbbmaa", sum := "808df0f698befb9cd1758e2b855532280ac128301ae8fcce93f37e27a738fd33", func := "ratline/ratlinelaw07.BlockBack", spec := "blockBack", unfollowed := true, recurses := true, apart := false }
def BlockBackSaid : Prop := blockBackRow.holds Try.pinned (OpenSpec.ofChange blockBackSpec)

/-- ITS FALSE NEIGHBOUR: 'it returns false'. Refute it at one input. -/
def blockBackWrong : ChangeSpec := { name := "blockBack", fn := fun _ => fun
  | [d1, d2, d3] => { results := [.lit (.bool false)], args := [d1, d2, d3] }
  | _ => none }
def BlockBackWrongFalsely : Prop := blockBackRow.holds Try.pinned (OpenSpec.ofChange blockBackWrong)

/-- 'ratlinelaw07.BlockSeek': WHATEVER THE INPUT: true; the input reads as it did. -/
def blockSeekSpec : ChangeSpec := { name := "blockSeek", fn := fun _ => fun
  | [d1, d2] => { results := [.lit (.bool true)], args := [d1, d2] }
  | _ => none }
def blockSeekRow : OpenClaim := { program := "ytjcjfghcahbbmaa", sum := "808df0f698befb9cd1758e2b855532280ac128301ae8fcce93f37e27a738fd33", func := "ratline/ratlinelaw07.BlockSeek", spec := "blockSeek", unfollowed := true, recurses := true, apart := false }
def BlockSeekSaid : Prop := blockSeekRow.holds Try.pinned (OpenSpec.ofChange blockSeekSpec)

/-- ITS FALSE NEIGHBOUR: 'it returns false'. Refute it at one input. -/
def blockSeekWrong : ChangeSpec := { name := "blockSeek", fn := fun _ => fun
  | [d1, d2] => { results := [.lit (.bool false)], args := [d1, d2] }
  | _ => none }
def BlockSeekWrongFalsely : Prop := blockSeekRow.holds Try.pinned (OpenSpec.ofChange blockSeekWrong)

/-- 'ratlinelaw07.BlockCut': WHATEVER THE INPUT: true; the input reads as it did. -/
def blockCutSpec : ChangeSpec := { name := "blockCut", fn := fun _ => fun
  | [d1, d2, d3] => { results := [.lit (.bool true)], args := [d1, d2, d3] }
  | _ => none }
def blockCutRow : OpenClaim := { program := "ytjcjfghcahbbmaa", sum := "808df0f698befb9cd1758e2b855532280ac128301ae8fcce93f37e27a738fd33", func := "ratline/ratlinelaw07.BlockCut", spec := "blockCut", unfollowed := true, recurses := true, apart := false }
def BlockCutSaid : Prop := blockCutRow.holds Try.pinned (OpenSpec.ofChange blockCutSpec)

/-- ITS FALSE NEIGHBOUR: 'it returns false'. Refute it at one input. -/
def blockCutWrong : ChangeSpec := { name := "blockCut", fn := fun _ => fun
  | [d1, d2, d3] => { results := [.lit (.bool false)], args := [d1, d2, d3] }
  | _ => none }
def BlockCutWrongFalsely : Prop := blockCutRow.holds Try.pinned (OpenSpec.ofChange blockCutWrong)

/-- 'ratlinelaw07.BlockShares': WHATEVER THE INPUT: true; the input reads as it did. -/
def blockSharesSpec : ChangeSpec := { name := "blockShares", fn := fun _ => fun
  | [d1, d2] => { results := [.lit (.bool true)], args := [d1, d2] }
  | _ => none }
def blockSharesRow : OpenClaim := { program := "ytjcjfghcahbbmaa", sum := "808df0f698befb9cd1758e2b855532280ac128301ae8fcce93f37e27a738fd33", func := "ratline/ratlinelaw07.BlockShares", spec := "blockShares", unfollowed := true, recurses := true, apart := false }
def BlockSharesSaid : Prop := blockSharesRow.holds Try.pinned (OpenSpec.ofChange blockSharesSpec)

/-- ITS FALSE NEIGHBOUR: 'it returns false'. Refute it at one input. -/
def blockSharesWrong : ChangeSpec := { name := "blockShares", fn := fun _ => fun
  | [d1, d2] => { results := [.lit (.bool false)], args := [d1, d2] }
  | _ => none }
def BlockSharesWrongFalsely : Prop := blockSharesRow.holds Try.pinned (OpenSpec.ofChange blockSharesWrong)

/-- 'ratlinelaw10.ManifestTells': WHATEVER THE INPUT: true; the input reads as it did. -/
def manifestTellsSpec : ChangeSpec := { name := "manifestTells", fn := fun _ => fun
  | [d1, d2, d3] => { results := [.lit (.bool true)], args := [d1, d2, d3] }
  | _ => none }
def manifestTellsRow : OpenClaim := { program := "ytjcjfghcahbbmaa", sum := "808df0f698befb9cd1758e2b855532280ac128301ae8fcce93f37e27a738fd33", func := "ratline/ratlinelaw10.ManifestTells", spec := "manifestTells", unfollowed := true, recurses := true, apart := false }
def ManifestTellsSaid : Prop := manifestTellsRow.holds Try.pinned (OpenSpec.ofChange manifestTellsSpec)

/-- ITS FALSE NEIGHBOUR: 'it returns false'. Refute it at one input. -/
def manifestTellsWrong : ChangeSpec := { name := "manifestTells", fn := fun _ => fun
  | [d1, d2, d3] => { results := [.lit (.bool false)], args := [d1, d2, d3] }
  | _ => none }
def ManifestTellsWrongFalsely : Prop := manifestTellsRow.holds Try.pinned (OpenSpec.ofChange manifestTellsWrong)

/-- 'ratlinelaw10.ManifestOnce': WHATEVER THE INPUT: true; the input reads as it did. -/
def manifestOnceSpec : ChangeSpec := { name := "manifestOnce", fn := fun _ => fun
  | [d1, d2] => { results := [.lit (.bool true)], args := [d1, d2] }
  | _ => none }
def manifestOnceRow : OpenClaim := { program := "ytjcjfghcahbbmaa", sum := "808df0f698befb9cd1758e2b855532280ac128301ae8fcce93f37e27a738fd33", func := "ratline/ratlinelaw10.ManifestOnce", spec := "manifestOnce", unfollowed := true, recurses := true, apart := false }
def ManifestOnceSaid : Prop := manifestOnceRow.holds Try.pinned (OpenSpec.ofChange manifestOnceSpec)

/-- ITS FALSE NEIGHBOUR: 'it returns false'. Refute it at one input. -/
def manifestOnceWrong : ChangeSpec := { name := "manifestOnce", fn := fun _ => fun
  | [d1, d2] => { results := [.lit (.bool false)], args := [d1, d2] }
  | _ => none }
def ManifestOnceWrongFalsely : Prop := manifestOnceRow.holds Try.pinned (OpenSpec.ofChange manifestOnceWrong)

/- THE SECOND FORM. 'bulk': how many values and letters a reading holds, each counted each time it is reached (what is shared counts as often as it is met; a slice's spare places count too). A statement '..UptoSaid' is the law's where the arguments, and the package variables that the reading takes, are together of bulk at most 1048576: NARROWER than '..Said'. Prove '..Said' where nothing that the law and all that it calls make is longer than what came in: it says more and counts as full. Else prove '..UptoSaid'. A law counts once. -/
mutual
def uptoBulk {H : Type} : DataW H → Nat
  | .lit (.string bytes) => bytes.length + 1
  | .lit _ => 1
  | .nil => 1
  | .ptr d => uptoBulk d + 1
  | .slice elems spare => uptoBulkAll elems + uptoBulkAll spare + 1
  | .agg parts => uptoBulkAll parts + 1
  | .iface _ d => uptoBulk d + 1
  | .map entries => uptoBulkEntries entries + 1
  | .held _ => 1
def uptoBulkAll {H : Type} : List (DataW H) → Nat
  | [] => 0
  | d :: r => uptoBulk d + uptoBulkAll r
def uptoBulkEntries {H : Type} : List (Lit × DataW H) → Nat
  | [] => 0
  | x :: r => uptoBulkEntry x + uptoBulkEntries r
def uptoBulkEntry {H : Type} : Lit × DataW H → Nat
  | (.string bytes, d) => bytes.length + uptoBulk d + 1
  | (_, d) => uptoBulk d + 1
 end
def uptoSmall : (H : Type) → List (DataW H) → Bool := fun _ ds => decide (uptoBulkAll ds ≤ 1048576)
def OpenSpec.upto (s : _root_.Go.ChangeSpec) : _root_.Go.OpenSpec := { _root_.Go.OpenSpec.ofChange s with cond := some uptoSmall }

/-- 'ratlinelaw10.ManifestFront', WHERE WHAT IT READS IS OF BULK AT MOST 1048576: true; the input reads as it did. -/
def manifestFrontUptoRow : OpenClaim := { program := "ytjcjfghcahbbmaa", sum := "808df0f698befb9cd1758e2b855532280ac128301ae8fcce93f37e27a738fd33", func := "ratline/ratlinelaw10.ManifestFront", spec := "manifestFront", unfollowed := true, recurses := true, apart := false, narrowed := true }
def ManifestFrontUptoSaid : Prop := manifestFrontUptoRow.holds Try.pinned (OpenSpec.upto manifestFrontSpec)

/-- 'ratlinelaw10.ManifestDamage', WHERE WHAT IT READS IS OF BULK AT MOST 1048576: true; the input reads as it did. -/
def manifestDamageUptoRow : OpenClaim := { program := "ytjcjfghcahbbmaa", sum := "808df0f698befb9cd1758e2b855532280ac128301ae8fcce93f37e27a738fd33", func := "ratline/ratlinelaw10.ManifestDamage", spec := "manifestDamage", unfollowed := true, recurses := true, apart := false, narrowed := true }
def ManifestDamageUptoSaid : Prop := manifestDamageUptoRow.holds Try.pinned (OpenSpec.upto manifestDamageSpec)

/-- 'ratlinelaw07.BlockTells', WHERE WHAT IT READS IS OF BULK AT MOST 1048576: true; the input reads as it did. -/
def blockTellsUptoRow : OpenClaim := { program := "ytjcjfghcahbbmaa", sum := "808df0f698befb9cd1758e2b855532280ac128301ae8fcce93f37e27a738fd33", func := "ratline/ratlinelaw07.BlockTells", spec := "blockTells", unfollowed := true, recurses := true, apart := false, narrowed := true }
def BlockTellsUptoSaid : Prop := blockTellsUptoRow.holds Try.pinned (OpenSpec.upto blockTellsSpec)

/-- 'ratlinelaw07.BlockBack', WHERE WHAT IT READS IS OF BULK AT MOST 1048576: true; the input reads as it did. -/
def blockBackUptoRow : OpenClaim := { program := "ytjcjfghcahbbmaa", sum := "808df0f698befb9cd1758e2b855532280ac128301ae8fcce93f37e27a738fd33", func := "ratline/ratlinelaw07.BlockBack", spec := "blockBack", unfollowed := true, recurses := true, apart := false, narrowed := true }
def BlockBackUptoSaid : Prop := blockBackUptoRow.holds Try.pinned (OpenSpec.upto blockBackSpec)

/-- 'ratlinelaw07.BlockSeek', WHERE WHAT IT READS IS OF BULK AT MOST 1048576: true; the input reads as it did. -/
def blockSeekUptoRow : OpenClaim := { program := "ytjcjfghcahbbmaa", sum := "808df0f698befb9cd1758e2b855532280ac128301ae8fcce93f37e27a738fd33", func := "ratline/ratlinelaw07.BlockSeek", spec := "blockSeek", unfollowed := true, recurses := true, apart := false, narrowed := true }
def BlockSeekUptoSaid : Prop := blockSeekUptoRow.holds Try.pinned (OpenSpec.upto blockSeekSpec)

/-- 'ratlinelaw07.BlockCut', WHERE WHAT IT READS IS OF BULK AT MOST 1048576: true; the input reads as it did. -/
def blockCutUptoRow : OpenClaim := { program := "ytjcjfghcahbbmaa", sum := "808df0f698befb9cd1758e2b855532280ac128301ae8fcce93f37e27a738fd33", func := "ratline/ratlinelaw07.BlockCut", spec := "blockCut", unfollowed := true, recurses := true, apart := false, narrowed := true }
def BlockCutUptoSaid : Prop := blockCutUptoRow.holds Try.pinned (OpenSpec.upto blockCutSpec)

/-- 'ratlinelaw07.BlockShares', WHERE WHAT IT READS IS OF BULK AT MOST 1048576: true; the input reads as it did. -/
def blockSharesUptoRow : OpenClaim := { program := "ytjcjfghcahbbmaa", sum := "808df0f698befb9cd1758e2b855532280ac128301ae8fcce93f37e27a738fd33", func := "ratline/ratlinelaw07.BlockShares", spec := "blockShares", unfollowed := true, recurses := true, apart := false, narrowed := true }
def BlockSharesUptoSaid : Prop := blockSharesUptoRow.holds Try.pinned (OpenSpec.upto blockSharesSpec)

/-- 'ratlinelaw10.ManifestTells', WHERE WHAT IT READS IS OF BULK AT MOST 1048576: true; the input reads as it did. -/
def manifestTellsUptoRow : OpenClaim := { program := "ytjcjfghcahbbmaa", sum := "808df0f698befb9cd1758e2b855532280ac128301ae8fcce93f37e27a738fd33", func := "ratline/ratlinelaw10.ManifestTells", spec := "manifestTells", unfollowed := true, recurses := true, apart := false, narrowed := true }
def ManifestTellsUptoSaid : Prop := manifestTellsUptoRow.holds Try.pinned (OpenSpec.upto manifestTellsSpec)

/-- 'ratlinelaw10.ManifestOnce', WHERE WHAT IT READS IS OF BULK AT MOST 1048576: true; the input reads as it did. -/
def manifestOnceUptoRow : OpenClaim := { program := "ytjcjfghcahbbmaa", sum := "808df0f698befb9cd1758e2b855532280ac128301ae8fcce93f37e27a738fd33", func := "ratline/ratlinelaw10.ManifestOnce", spec := "manifestOnce", unfollowed := true, recurses := true, apart := false, narrowed := true }
def ManifestOnceUptoSaid : Prop := manifestOnceUptoRow.holds Try.pinned (OpenSpec.upto manifestOnceSpec)

end Rows
end Go.Proofs.Ytjcjfghcahbbmaa
