/-
  No cell of these rows narrows 'for every input' (looked for: loops, veiled, ifaces, maps, wideKeys, modest, calm, conditions, laid).
  DERIVED. THE GIVEN ROWS OF THIS SEAT. 7 by the template 'for every input the law returns true; each argument reads behind the call as it read before'; 0 by the template 'total and deterministic' (their statements: YtccabdgfjcjpoaaTotals.lean).
  GIVEN WITH THE SEED: the statements are not yours to turn. If you find one false, say at which input.
  Laid BY PROGRAM, IN A SANDBOX (cutbox-rows.mjs): the forced cells as the released guide's own fill.sh prints them over the translation 7d46c6004ad2d2eb… (all of the seat's roots in one cut). By AI agents, Wed Nov 11 2026. No macro, syntax, notation, axiom, sorry.
-/
import Derived.Test.YtccabdgfjcjpoaaChecked
import GoSem.Claim
import GoSem.ClaimJoined
import GoSem.ClaimMapViews
import Derived.JoinedTies
import Derived.KernelRfl
namespace Go.Proofs.Ytccabdgfjcjpoaa
/- THE CELL 'sum', in the pinned program and in every row, IS THE sha256 OF THE DUMP (.gsa) THAT YtccabdgfjcjpoaaProg.lean LOADS. Nothing in Lean hashes anything: it is a label: what it is worth is what the hold of that sum in a sandbox is worth. -/
noncomputable def Try.pinned : Pinned := { name := "ytccabdgfjcjpoaa", sum := "7d46c6004ad2d2ebdff97d52ef4c5693a65e7c04ec4a697acd3b5f2a81226d48", checked := Try.checked }
namespace Rows
def none {H : Type} : Left H := { results := [], args := [] }

/-- 'mootlaw15.MempoolFull': WHATEVER THE INPUT: true; the input reads as it did. -/
def mempoolFullSpec : ChangeSpec := { name := "mempoolFull", fn := fun _ => fun
  | [d] => { results := [.lit (.bool true)], args := [d] }
  | _ => none }
def mempoolFullRow : OpenClaim := { program := "ytccabdgfjcjpoaa", sum := "7d46c6004ad2d2ebdff97d52ef4c5693a65e7c04ec4a697acd3b5f2a81226d48", func := "moot/mootlaw15.MempoolFull", spec := "mempoolFull", plainKeys := false, apart := false }
def MempoolFullSaid : Prop := mempoolFullRow.holds Try.pinned (OpenSpec.ofChange mempoolFullSpec)

/-- ITS FALSE NEIGHBOUR: 'it returns false'. Refute it at one input. -/
def mempoolFullWrong : ChangeSpec := { name := "mempoolFull", fn := fun _ => fun
  | [d] => { results := [.lit (.bool false)], args := [d] }
  | _ => none }
def MempoolFullWrongFalsely : Prop := mempoolFullRow.holds Try.pinned (OpenSpec.ofChange mempoolFullWrong)

/-- 'mootlaw19.HeldTells': WHATEVER THE INPUT: true; the input reads as it did. -/
def heldTellsSpec : ChangeSpec := { name := "heldTells", fn := fun _ => fun
  | [d1, d2] => { results := [.lit (.bool true)], args := [d1, d2] }
  | _ => none }
def heldTellsRow : OpenClaim := { program := "ytccabdgfjcjpoaa", sum := "7d46c6004ad2d2ebdff97d52ef4c5693a65e7c04ec4a697acd3b5f2a81226d48", func := "moot/mootlaw19.HeldTells", spec := "heldTells", unfollowed := true, recurses := true, plainKeys := false, apart := false }
def HeldTellsSaid : Prop := heldTellsRow.holds Try.pinned (OpenSpec.ofChange heldTellsSpec)

/-- ITS FALSE NEIGHBOUR: 'it returns false'. Refute it at one input. -/
def heldTellsWrong : ChangeSpec := { name := "heldTells", fn := fun _ => fun
  | [d1, d2] => { results := [.lit (.bool false)], args := [d1, d2] }
  | _ => none }
def HeldTellsWrongFalsely : Prop := heldTellsRow.holds Try.pinned (OpenSpec.ofChange heldTellsWrong)

/-- 'mootlaw19.HeldOnce': WHATEVER THE INPUT: true; the input reads as it did. -/
def heldOnceSpec : ChangeSpec := { name := "heldOnce", fn := fun _ => fun
  | [d1, d2, d3] => { results := [.lit (.bool true)], args := [d1, d2, d3] }
  | _ => none }
def heldOnceRow : OpenClaim := { program := "ytccabdgfjcjpoaa", sum := "7d46c6004ad2d2ebdff97d52ef4c5693a65e7c04ec4a697acd3b5f2a81226d48", func := "moot/mootlaw19.HeldOnce", spec := "heldOnce", unfollowed := true, recurses := true, plainKeys := false, apart := false }
def HeldOnceSaid : Prop := heldOnceRow.holds Try.pinned (OpenSpec.ofChange heldOnceSpec)

/-- ITS FALSE NEIGHBOUR: 'it returns false'. Refute it at one input. -/
def heldOnceWrong : ChangeSpec := { name := "heldOnce", fn := fun _ => fun
  | [d1, d2, d3] => { results := [.lit (.bool false)], args := [d1, d2, d3] }
  | _ => none }
def HeldOnceWrongFalsely : Prop := heldOnceRow.holds Try.pinned (OpenSpec.ofChange heldOnceWrong)

/-- 'mootlaw19.HeldFresh': WHATEVER THE INPUT: true; the input reads as it did. -/
def heldFreshSpec : ChangeSpec := { name := "heldFresh", fn := fun _ => fun
  | [d1, d2] => { results := [.lit (.bool true)], args := [d1, d2] }
  | _ => none }
def heldFreshRow : OpenClaim := { program := "ytccabdgfjcjpoaa", sum := "7d46c6004ad2d2ebdff97d52ef4c5693a65e7c04ec4a697acd3b5f2a81226d48", func := "moot/mootlaw19.HeldFresh", spec := "heldFresh", unfollowed := true, recurses := true, plainKeys := false, apart := false }
def HeldFreshSaid : Prop := heldFreshRow.holds Try.pinned (OpenSpec.ofChange heldFreshSpec)

/-- ITS FALSE NEIGHBOUR: 'it returns false'. Refute it at one input. -/
def heldFreshWrong : ChangeSpec := { name := "heldFresh", fn := fun _ => fun
  | [d1, d2] => { results := [.lit (.bool false)], args := [d1, d2] }
  | _ => none }
def HeldFreshWrongFalsely : Prop := heldFreshRow.holds Try.pinned (OpenSpec.ofChange heldFreshWrong)

/-- 'mootlaw15.MempoolNext': WHATEVER THE INPUT: true; the input reads as it did. -/
def mempoolNextSpec : ChangeSpec := { name := "mempoolNext", fn := fun _ => fun
  | [d1, d2] => { results := [.lit (.bool true)], args := [d1, d2] }
  | _ => none }
def mempoolNextRow : OpenClaim := { program := "ytccabdgfjcjpoaa", sum := "7d46c6004ad2d2ebdff97d52ef4c5693a65e7c04ec4a697acd3b5f2a81226d48", func := "moot/mootlaw15.MempoolNext", spec := "mempoolNext", unfollowed := true, recurses := true, plainKeys := false, apart := false }
def MempoolNextSaid : Prop := mempoolNextRow.holds Try.pinned (OpenSpec.ofChange mempoolNextSpec)

/-- ITS FALSE NEIGHBOUR: 'it returns false'. Refute it at one input. -/
def mempoolNextWrong : ChangeSpec := { name := "mempoolNext", fn := fun _ => fun
  | [d1, d2] => { results := [.lit (.bool false)], args := [d1, d2] }
  | _ => none }
def MempoolNextWrongFalsely : Prop := mempoolNextRow.holds Try.pinned (OpenSpec.ofChange mempoolNextWrong)

/-- 'mootlaw15.MempoolOnce': WHATEVER THE INPUT: true; the input reads as it did. -/
def mempoolOnceSpec : ChangeSpec := { name := "mempoolOnce", fn := fun _ => fun
  | [d] => { results := [.lit (.bool true)], args := [d] }
  | _ => none }
def mempoolOnceRow : OpenClaim := { program := "ytccabdgfjcjpoaa", sum := "7d46c6004ad2d2ebdff97d52ef4c5693a65e7c04ec4a697acd3b5f2a81226d48", func := "moot/mootlaw15.MempoolOnce", spec := "mempoolOnce", unfollowed := true, recurses := true, plainKeys := false, apart := false }
def MempoolOnceSaid : Prop := mempoolOnceRow.holds Try.pinned (OpenSpec.ofChange mempoolOnceSpec)

/-- ITS FALSE NEIGHBOUR: 'it returns false'. Refute it at one input. -/
def mempoolOnceWrong : ChangeSpec := { name := "mempoolOnce", fn := fun _ => fun
  | [d] => { results := [.lit (.bool false)], args := [d] }
  | _ => none }
def MempoolOnceWrongFalsely : Prop := mempoolOnceRow.holds Try.pinned (OpenSpec.ofChange mempoolOnceWrong)

/-- 'mootlaw24.NetTells': WHATEVER THE INPUT: true; the input reads as it did. -/
def netTellsSpec : ChangeSpec := { name := "netTells", fn := fun _ => fun
  | [d1, d2, d3, d4, d5] => { results := [.lit (.bool true)], args := [d1, d2, d3, d4, d5] }
  | _ => none }
def netTellsRow : OpenClaim := { program := "ytccabdgfjcjpoaa", sum := "7d46c6004ad2d2ebdff97d52ef4c5693a65e7c04ec4a697acd3b5f2a81226d48", func := "moot/mootlaw24.NetTells", spec := "netTells", unfollowed := true, recurses := true, plainKeys := false, apart := false }
def NetTellsSaid : Prop := netTellsRow.holds Try.pinned (OpenSpec.ofChange netTellsSpec)

/-- ITS FALSE NEIGHBOUR: 'it returns false'. Refute it at one input. -/
def netTellsWrong : ChangeSpec := { name := "netTells", fn := fun _ => fun
  | [d1, d2, d3, d4, d5] => { results := [.lit (.bool false)], args := [d1, d2, d3, d4, d5] }
  | _ => none }
def NetTellsWrongFalsely : Prop := netTellsRow.holds Try.pinned (OpenSpec.ofChange netTellsWrong)

/- THE SECOND FORM. 'bulk': how many values and letters a reading holds, each counted each time it is reached (what is shared counts as often as it is met; a slice's spare places count too). A statement '..UptoSaid' is the law's where the arguments, and the package variables that the reading takes, are together of bulk at most 1048576: NARROWER than '..Said'. Prove '..Said' where nothing that the law and all that it calls make is longer than what came in: it says more and counts as full. Else prove '..UptoSaid'. A law counts once. -/
mutual
def uptoBulk {H : Type} : DataW H → Nat
  | .lit (.string bytes) => bytes.length + 1
  | .lit _ => 1
  | .nil => 1
  | .ptr d => uptoBulk d + 1
  | .slice elems spare => uptoBulkAll elems + uptoBulkAll spare + 1
  | .agg parts => uptoBulkAll parts + 1
  | .iface _ d => uptoBulk d + 1
  | .map entries => uptoBulkEntries entries + 1
  | .held _ => 1
def uptoBulkAll {H : Type} : List (DataW H) → Nat
  | [] => 0
  | d :: r => uptoBulk d + uptoBulkAll r
def uptoBulkEntries {H : Type} : List (Lit × DataW H) → Nat
  | [] => 0
  | x :: r => uptoBulkEntry x + uptoBulkEntries r
def uptoBulkEntry {H : Type} : Lit × DataW H → Nat
  | (.string bytes, d) => bytes.length + uptoBulk d + 1
  | (_, d) => uptoBulk d + 1
 end
def uptoSmall : (H : Type) → List (DataW H) → Bool := fun _ ds => decide (uptoBulkAll ds ≤ 1048576)
def OpenSpec.upto (s : _root_.Go.ChangeSpec) : _root_.Go.OpenSpec := { _root_.Go.OpenSpec.ofChange s with cond := some uptoSmall }

/-- 'mootlaw15.MempoolFull', WHERE WHAT IT READS IS OF BULK AT MOST 1048576: true; the input reads as it did. -/
def mempoolFullUptoRow : OpenClaim := { program := "ytccabdgfjcjpoaa", sum := "7d46c6004ad2d2ebdff97d52ef4c5693a65e7c04ec4a697acd3b5f2a81226d48", func := "moot/mootlaw15.MempoolFull", spec := "mempoolFull", plainKeys := false, apart := false, narrowed := true }
def MempoolFullUptoSaid : Prop := mempoolFullUptoRow.holds Try.pinned (OpenSpec.upto mempoolFullSpec)

/-- 'mootlaw19.HeldTells', WHERE WHAT IT READS IS OF BULK AT MOST 1048576: true; the input reads as it did. -/
def heldTellsUptoRow : OpenClaim := { program := "ytccabdgfjcjpoaa", sum := "7d46c6004ad2d2ebdff97d52ef4c5693a65e7c04ec4a697acd3b5f2a81226d48", func := "moot/mootlaw19.HeldTells", spec := "heldTells", unfollowed := true, recurses := true, plainKeys := false, apart := false, narrowed := true }
def HeldTellsUptoSaid : Prop := heldTellsUptoRow.holds Try.pinned (OpenSpec.upto heldTellsSpec)

/-- 'mootlaw19.HeldOnce', WHERE WHAT IT READS IS OF BULK AT MOST 1048576: true; the input reads as it did. -/
def heldOnceUptoRow : OpenClaim := { program := "ytccabdgfjcjpoaa", sum := "7d46c6004ad2d2ebdff97d52ef4c5693a65e7c04ec4a697acd3b5f2a81226d48", func := "moot/mootlaw19.HeldOnce", spec := "heldOnce", unfollowed := true, recurses := true, plainKeys := false, apart := false, narrowed := true }
def HeldOnceUptoSaid : Prop := heldOnceUptoRow.holds Try.pinned (OpenSpec.upto heldOnceSpec)

/-- 'mootlaw19.HeldFresh', WHERE WHAT IT READS IS OF BULK AT MOST 1048576: true; the input reads as it did. -/
def heldFreshUptoRow : OpenClaim := { program := "ytccabdgfjcjpoaa", sum := "7d46c6004ad2d2ebdff97d52ef4c5693a65e7c04ec4a697acd3b5f2a81226d48", func := "moot/mootlaw19.HeldFresh", spec := "heldFresh", unfollowed := true, recurses := true, plainKeys := false, apart := false, narrowed := true }
def HeldFreshUptoSaid : Prop := heldFreshUptoRow.holds Try.pinned (OpenSpec.upto heldFreshSpec)

/-- 'mootlaw15.MempoolNext', WHERE WHAT IT READS IS OF BULK AT MOST 1048576: true; the input reads as it did. -/
def mempoolNextUptoRow : OpenClaim := { program := "ytccabdgfjcjpoaa", sum := "7d46c6004ad2d2ebdff97d52ef4c5693a65e7c04ec4a697acd3b5f2a81226d48", func := "moot/mootlaw15.MempoolNext", spec := "mempoolNext", unfollowed := true, recurses := true, plainKeys := false, apart := false, narrowed := true }
def MempoolNextUptoSaid : Prop := mempoolNextUptoRow.holds Try.pinned (OpenSpec.upto mempoolNextSpec)

/-- 'mootlaw15.MempoolOnce', WHERE WHAT IT READS IS OF BULK AT MOST 1048576: true; the input reads as it did. -/
def mempoolOnceUptoRow : OpenClaim := { program := "ytccabdgfjcjpoaa", sum := "7d46c6004ad2d2ebdff97d52ef4c5693a65e7c04ec4a697acd3b5f2a81226d48", func := "moot/mootlaw15.MempoolOnce", spec := "mempoolOnce", unfollowed := true, recurses := true, plainKeys := false, apart := false, narrowed := true }
def MempoolOnceUptoSaid : Prop := mempoolOnceUptoRow.holds Try.pinned (OpenSpec.upto mempoolOnceSpec)

/-- 'mootlaw24.NetTells', WHERE WHAT IT READS IS OF BULK AT MOST 1048576: true; the input reads as it did. -/
def netTellsUptoRow : OpenClaim := { program := "ytccabdgfjcjpoaa", sum := "7d46c6004ad2d2ebdff97d52ef4c5693a65e7c04ec4a697acd3b5f2a81226d48", func := "moot/mootlaw24.NetTells", spec := "netTells", unfollowed := true, recurses := true, plainKeys := false, apart := false, narrowed := true }
def NetTellsUptoSaid : Prop := netTellsUptoRow.holds Try.pinned (OpenSpec.upto netTellsSpec)

end Rows
end Go.Proofs.Ytccabdgfjcjpoaa
