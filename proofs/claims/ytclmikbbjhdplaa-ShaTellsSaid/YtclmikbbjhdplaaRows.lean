/-
  No cell of these rows narrows 'for every input' (looked for: loops, veiled, ifaces, maps, wideKeys, modest, calm, conditions, laid).
  DERIVED. THE GIVEN ROWS OF THIS SEAT. 12 by the template 'for every input the law returns true; each argument reads behind the call as it read before'; 0 by the template 'total and deterministic' (their statements: YtclmikbbjhdplaaTotals.lean).
  GIVEN WITH THE SEED: the statements are not yours to turn. If you find one false, say at which input.
  Laid BY PROGRAM, IN A SANDBOX (cutbox-rows.mjs): the forced cells as the released guide's own fill.sh prints them over the translation 618e6d60dc4ed488… (all of the seat's roots in one cut). By AI agents, Wed Nov 11 2026. No macro, syntax, notation, axiom, sorry.
-/
import Derived.Test.YtclmikbbjhdplaaChecked
import GoSem.Claim
import GoSem.ClaimJoined
import GoSem.ClaimMapViews
import Derived.JoinedTies
import Derived.KernelRfl
namespace Go.Proofs.Ytclmikbbjhdplaa
/- THE CELL 'sum', in the pinned program and in every row, IS THE sha256 OF THE DUMP (.gsa) THAT YtclmikbbjhdplaaProg.lean LOADS. Nothing in Lean hashes anything: it is a label: what it is worth is what the hold of that sum in a sandbox is worth. -/
noncomputable def Try.pinned : Pinned := { name := "ytclmikbbjhdplaa", sum := "618e6d60dc4ed4887224cf05b61d274ac51eca7f12a135d9f688c3f6cb125fab", checked := Try.checked }
namespace Rows
def none {H : Type} : Left H := { results := [], args := [] }

/-- 'mootlaw01.OctetsBack': WHATEVER THE INPUT: true; the input reads as it did. -/
def octetsBackSpec : ChangeSpec := { name := "octetsBack", fn := fun _ => fun
  | [d1, d2] => { results := [.lit (.bool true)], args := [d1, d2] }
  | _ => none }
def octetsBackRow : OpenClaim := { program := "ytclmikbbjhdplaa", sum := "618e6d60dc4ed4887224cf05b61d274ac51eca7f12a135d9f688c3f6cb125fab", func := "moot/mootlaw01.OctetsBack", spec := "octetsBack", unfollowed := true, recurses := true, apart := false }
def OctetsBackSaid : Prop := octetsBackRow.holds Try.pinned (OpenSpec.ofChange octetsBackSpec)

/-- ITS FALSE NEIGHBOUR: 'it returns false'. Refute it at one input. -/
def octetsBackWrong : ChangeSpec := { name := "octetsBack", fn := fun _ => fun
  | [d1, d2] => { results := [.lit (.bool false)], args := [d1, d2] }
  | _ => none }
def OctetsBackWrongFalsely : Prop := octetsBackRow.holds Try.pinned (OpenSpec.ofChange octetsBackWrong)

/-- 'mootlaw01.OctetsWords': WHATEVER THE INPUT: true; the input reads as it did. -/
def octetsWordsSpec : ChangeSpec := { name := "octetsWords", fn := fun _ => fun
  | [d] => { results := [.lit (.bool true)], args := [d] }
  | _ => none }
def octetsWordsRow : OpenClaim := { program := "ytclmikbbjhdplaa", sum := "618e6d60dc4ed4887224cf05b61d274ac51eca7f12a135d9f688c3f6cb125fab", func := "moot/mootlaw01.OctetsWords", spec := "octetsWords", unfollowed := true, recurses := true, apart := false }
def OctetsWordsSaid : Prop := octetsWordsRow.holds Try.pinned (OpenSpec.ofChange octetsWordsSpec)

/-- ITS FALSE NEIGHBOUR: 'it returns false'. Refute it at one input. -/
def octetsWordsWrong : ChangeSpec := { name := "octetsWords", fn := fun _ => fun
  | [d] => { results := [.lit (.bool false)], args := [d] }
  | _ => none }
def OctetsWordsWrongFalsely : Prop := octetsWordsRow.holds Try.pinned (OpenSpec.ofChange octetsWordsWrong)

/-- 'mootlaw01.OctetsOwn': WHATEVER THE INPUT: true; the input reads as it did. -/
def octetsOwnSpec : ChangeSpec := { name := "octetsOwn", fn := fun _ => fun
  | [d1, d2] => { results := [.lit (.bool true)], args := [d1, d2] }
  | _ => none }
def octetsOwnRow : OpenClaim := { program := "ytclmikbbjhdplaa", sum := "618e6d60dc4ed4887224cf05b61d274ac51eca7f12a135d9f688c3f6cb125fab", func := "moot/mootlaw01.OctetsOwn", spec := "octetsOwn", unfollowed := true, recurses := true, apart := false }
def OctetsOwnSaid : Prop := octetsOwnRow.holds Try.pinned (OpenSpec.ofChange octetsOwnSpec)

/-- ITS FALSE NEIGHBOUR: 'it returns false'. Refute it at one input. -/
def octetsOwnWrong : ChangeSpec := { name := "octetsOwn", fn := fun _ => fun
  | [d1, d2] => { results := [.lit (.bool false)], args := [d1, d2] }
  | _ => none }
def OctetsOwnWrongFalsely : Prop := octetsOwnRow.holds Try.pinned (OpenSpec.ofChange octetsOwnWrong)

/-- 'mootlaw03.WotsBack': WHATEVER THE INPUT: true; the input reads as it did. -/
def wotsBackSpec : ChangeSpec := { name := "wotsBack", fn := fun _ => fun
  | [d1, d2, d3] => { results := [.lit (.bool true)], args := [d1, d2, d3] }
  | _ => none }
def wotsBackRow : OpenClaim := { program := "ytclmikbbjhdplaa", sum := "618e6d60dc4ed4887224cf05b61d274ac51eca7f12a135d9f688c3f6cb125fab", func := "moot/mootlaw03.WotsBack", spec := "wotsBack", unfollowed := true, recurses := true, apart := false }
def WotsBackSaid : Prop := wotsBackRow.holds Try.pinned (OpenSpec.ofChange wotsBackSpec)

/-- ITS FALSE NEIGHBOUR: 'it returns false'. Refute it at one input. -/
def wotsBackWrong : ChangeSpec := { name := "wotsBack", fn := fun _ => fun
  | [d1, d2, d3] => { results := [.lit (.bool false)], args := [d1, d2, d3] }
  | _ => none }
def WotsBackWrongFalsely : Prop := wotsBackRow.holds Try.pinned (OpenSpec.ofChange wotsBackWrong)

/-- 'mootlaw01.OctetsTells': WHATEVER THE INPUT: true; the input reads as it did. -/
def octetsTellsSpec : ChangeSpec := { name := "octetsTells", fn := fun _ => fun
  | [d1, d2, d3, d4, d5, d6] => { results := [.lit (.bool true)], args := [d1, d2, d3, d4, d5, d6] }
  | _ => none }
def octetsTellsRow : OpenClaim := { program := "ytclmikbbjhdplaa", sum := "618e6d60dc4ed4887224cf05b61d274ac51eca7f12a135d9f688c3f6cb125fab", func := "moot/mootlaw01.OctetsTells", spec := "octetsTells", unfollowed := true, recurses := true, apart := false }
def OctetsTellsSaid : Prop := octetsTellsRow.holds Try.pinned (OpenSpec.ofChange octetsTellsSpec)

/-- ITS FALSE NEIGHBOUR: 'it returns false'. Refute it at one input. -/
def octetsTellsWrong : ChangeSpec := { name := "octetsTells", fn := fun _ => fun
  | [d1, d2, d3, d4, d5, d6] => { results := [.lit (.bool false)], args := [d1, d2, d3, d4, d5, d6] }
  | _ => none }
def OctetsTellsWrongFalsely : Prop := octetsTellsRow.holds Try.pinned (OpenSpec.ofChange octetsTellsWrong)

/-- 'mootlaw02.ShaTells': WHATEVER THE INPUT: true; the input reads as it did. -/
def shaTellsSpec : ChangeSpec := { name := "shaTells", fn := fun _ => fun
  | [d] => { results := [.lit (.bool true)], args := [d] }
  | _ => none }
def shaTellsRow : OpenClaim := { program := "ytclmikbbjhdplaa", sum := "618e6d60dc4ed4887224cf05b61d274ac51eca7f12a135d9f688c3f6cb125fab", func := "moot/mootlaw02.ShaTells", spec := "shaTells", unfollowed := true, recurses := true, apart := false }
def ShaTellsSaid : Prop := shaTellsRow.holds Try.pinned (OpenSpec.ofChange shaTellsSpec)

/-- ITS FALSE NEIGHBOUR: 'it returns false'. Refute it at one input. -/
def shaTellsWrong : ChangeSpec := { name := "shaTells", fn := fun _ => fun
  | [d] => { results := [.lit (.bool false)], args := [d] }
  | _ => none }
def ShaTellsWrongFalsely : Prop := shaTellsRow.holds Try.pinned (OpenSpec.ofChange shaTellsWrong)

/-- 'mootlaw02.ShaPads': WHATEVER THE INPUT: true; the input reads as it did. -/
def shaPadsSpec : ChangeSpec := { name := "shaPads", fn := fun _ => fun
  | [d] => { results := [.lit (.bool true)], args := [d] }
  | _ => none }
def shaPadsRow : OpenClaim := { program := "ytclmikbbjhdplaa", sum := "618e6d60dc4ed4887224cf05b61d274ac51eca7f12a135d9f688c3f6cb125fab", func := "moot/mootlaw02.ShaPads", spec := "shaPads", unfollowed := true, recurses := true, apart := false }
def ShaPadsSaid : Prop := shaPadsRow.holds Try.pinned (OpenSpec.ofChange shaPadsSpec)

/-- ITS FALSE NEIGHBOUR: 'it returns false'. Refute it at one input. -/
def shaPadsWrong : ChangeSpec := { name := "shaPads", fn := fun _ => fun
  | [d] => { results := [.lit (.bool false)], args := [d] }
  | _ => none }
def ShaPadsWrongFalsely : Prop := shaPadsRow.holds Try.pinned (OpenSpec.ofChange shaPadsWrong)

/-- 'mootlaw02.ShaParts': WHATEVER THE INPUT: true; the input reads as it did. -/
def shaPartsSpec : ChangeSpec := { name := "shaParts", fn := fun _ => fun
  | [d] => { results := [.lit (.bool true)], args := [d] }
  | _ => none }
def shaPartsRow : OpenClaim := { program := "ytclmikbbjhdplaa", sum := "618e6d60dc4ed4887224cf05b61d274ac51eca7f12a135d9f688c3f6cb125fab", func := "moot/mootlaw02.ShaParts", spec := "shaParts", unfollowed := true, recurses := true, apart := false }
def ShaPartsSaid : Prop := shaPartsRow.holds Try.pinned (OpenSpec.ofChange shaPartsSpec)

/-- ITS FALSE NEIGHBOUR: 'it returns false'. Refute it at one input. -/
def shaPartsWrong : ChangeSpec := { name := "shaParts", fn := fun _ => fun
  | [d] => { results := [.lit (.bool false)], args := [d] }
  | _ => none }
def ShaPartsWrongFalsely : Prop := shaPartsRow.holds Try.pinned (OpenSpec.ofChange shaPartsWrong)

/-- 'mootlaw03.WotsDigits': WHATEVER THE INPUT: true; the input reads as it did. -/
def wotsDigitsSpec : ChangeSpec := { name := "wotsDigits", fn := fun _ => fun
  | [d] => { results := [.lit (.bool true)], args := [d] }
  | _ => none }
def wotsDigitsRow : OpenClaim := { program := "ytclmikbbjhdplaa", sum := "618e6d60dc4ed4887224cf05b61d274ac51eca7f12a135d9f688c3f6cb125fab", func := "moot/mootlaw03.WotsDigits", spec := "wotsDigits", unfollowed := true, recurses := true, apart := false }
def WotsDigitsSaid : Prop := wotsDigitsRow.holds Try.pinned (OpenSpec.ofChange wotsDigitsSpec)

/-- ITS FALSE NEIGHBOUR: 'it returns false'. Refute it at one input. -/
def wotsDigitsWrong : ChangeSpec := { name := "wotsDigits", fn := fun _ => fun
  | [d] => { results := [.lit (.bool false)], args := [d] }
  | _ => none }
def WotsDigitsWrongFalsely : Prop := wotsDigitsRow.holds Try.pinned (OpenSpec.ofChange wotsDigitsWrong)

/-- 'mootlaw03.WotsChains': WHATEVER THE INPUT: true; the input reads as it did. -/
def wotsChainsSpec : ChangeSpec := { name := "wotsChains", fn := fun _ => fun
  | [d1, d2, d3] => { results := [.lit (.bool true)], args := [d1, d2, d3] }
  | _ => none }
def wotsChainsRow : OpenClaim := { program := "ytclmikbbjhdplaa", sum := "618e6d60dc4ed4887224cf05b61d274ac51eca7f12a135d9f688c3f6cb125fab", func := "moot/mootlaw03.WotsChains", spec := "wotsChains", unfollowed := true, recurses := true, apart := false }
def WotsChainsSaid : Prop := wotsChainsRow.holds Try.pinned (OpenSpec.ofChange wotsChainsSpec)

/-- ITS FALSE NEIGHBOUR: 'it returns false'. Refute it at one input. -/
def wotsChainsWrong : ChangeSpec := { name := "wotsChains", fn := fun _ => fun
  | [d1, d2, d3] => { results := [.lit (.bool false)], args := [d1, d2, d3] }
  | _ => none }
def WotsChainsWrongFalsely : Prop := wotsChainsRow.holds Try.pinned (OpenSpec.ofChange wotsChainsWrong)

/-- 'mootlaw03.WotsTells': WHATEVER THE INPUT: true; the input reads as it did. -/
def wotsTellsSpec : ChangeSpec := { name := "wotsTells", fn := fun _ => fun
  | [d1, d2, d3, d4, d5, d6] => { results := [.lit (.bool true)], args := [d1, d2, d3, d4, d5, d6] }
  | _ => none }
def wotsTellsRow : OpenClaim := { program := "ytclmikbbjhdplaa", sum := "618e6d60dc4ed4887224cf05b61d274ac51eca7f12a135d9f688c3f6cb125fab", func := "moot/mootlaw03.WotsTells", spec := "wotsTells", unfollowed := true, recurses := true, apart := false }
def WotsTellsSaid : Prop := wotsTellsRow.holds Try.pinned (OpenSpec.ofChange wotsTellsSpec)

/-- ITS FALSE NEIGHBOUR: 'it returns false'. Refute it at one input. -/
def wotsTellsWrong : ChangeSpec := { name := "wotsTells", fn := fun _ => fun
  | [d1, d2, d3, d4, d5, d6] => { results := [.lit (.bool false)], args := [d1, d2, d3, d4, d5, d6] }
  | _ => none }
def WotsTellsWrongFalsely : Prop := wotsTellsRow.holds Try.pinned (OpenSpec.ofChange wotsTellsWrong)

/-- 'mootlaw03.WotsSigns': WHATEVER THE INPUT: true; the input reads as it did. -/
def wotsSignsSpec : ChangeSpec := { name := "wotsSigns", fn := fun _ => fun
  | [d1, d2, d3, d4] => { results := [.lit (.bool true)], args := [d1, d2, d3, d4] }
  | _ => none }
def wotsSignsRow : OpenClaim := { program := "ytclmikbbjhdplaa", sum := "618e6d60dc4ed4887224cf05b61d274ac51eca7f12a135d9f688c3f6cb125fab", func := "moot/mootlaw03.WotsSigns", spec := "wotsSigns", unfollowed := true, recurses := true, apart := false }
def WotsSignsSaid : Prop := wotsSignsRow.holds Try.pinned (OpenSpec.ofChange wotsSignsSpec)

/-- ITS FALSE NEIGHBOUR: 'it returns false'. Refute it at one input. -/
def wotsSignsWrong : ChangeSpec := { name := "wotsSigns", fn := fun _ => fun
  | [d1, d2, d3, d4] => { results := [.lit (.bool false)], args := [d1, d2, d3, d4] }
  | _ => none }
def WotsSignsWrongFalsely : Prop := wotsSignsRow.holds Try.pinned (OpenSpec.ofChange wotsSignsWrong)

/- THE SECOND FORM. 'bulk': how many values and letters a reading holds, each counted each time it is reached (what is shared counts as often as it is met; a slice's spare places count too). A statement '..UptoSaid' is the law's where the arguments, and the package variables that the reading takes, are together of bulk at most 1048576: NARROWER than '..Said'. Prove '..Said' where nothing that the law and all that it calls make is longer than what came in: it says more and counts as full. Else prove '..UptoSaid'. A law counts once. -/
mutual
def uptoBulk {H : Type} : DataW H → Nat
  | .lit (.string bytes) => bytes.length + 1
  | .lit _ => 1
  | .nil => 1
  | .ptr d => uptoBulk d + 1
  | .slice elems spare => uptoBulkAll elems + uptoBulkAll spare + 1
  | .agg parts => uptoBulkAll parts + 1
  | .iface _ d => uptoBulk d + 1
  | .map entries => uptoBulkEntries entries + 1
  | .held _ => 1
def uptoBulkAll {H : Type} : List (DataW H) → Nat
  | [] => 0
  | d :: r => uptoBulk d + uptoBulkAll r
def uptoBulkEntries {H : Type} : List (Lit × DataW H) → Nat
  | [] => 0
  | x :: r => uptoBulkEntry x + uptoBulkEntries r
def uptoBulkEntry {H : Type} : Lit × DataW H → Nat
  | (.string bytes, d) => bytes.length + uptoBulk d + 1
  | (_, d) => uptoBulk d + 1
 end
def uptoSmall : (H : Type) → List (DataW H) → Bool := fun _ ds => decide (uptoBulkAll ds ≤ 1048576)
def OpenSpec.upto (s : _root_.Go.ChangeSpec) : _root_.Go.OpenSpec := { _root_.Go.OpenSpec.ofChange s with cond := some uptoSmall }

/-- 'mootlaw01.OctetsBack', WHERE WHAT IT READS IS OF BULK AT MOST 1048576: true; the input reads as it did. -/
def octetsBackUptoRow : OpenClaim := { program := "ytclmikbbjhdplaa", sum := "618e6d60dc4ed4887224cf05b61d274ac51eca7f12a135d9f688c3f6cb125fab", func := "moot/mootlaw01.OctetsBack", spec := "octetsBack", unfollowed := true, recurses := true, apart := false, narrowed := true }
def OctetsBackUptoSaid : Prop := octetsBackUptoRow.holds Try.pinned (OpenSpec.upto octetsBackSpec)

/-- 'mootlaw01.OctetsWords', WHERE WHAT IT READS IS OF BULK AT MOST 1048576: true; the input reads as it did. -/
def octetsWordsUptoRow : OpenClaim := { program := "ytclmikbbjhdplaa", sum := "618e6d60dc4ed4887224cf05b61d274ac51eca7f12a135d9f688c3f6cb125fab", func := "moot/mootlaw01.OctetsWords", spec := "octetsWords", unfollowed := true, recurses := true, apart := false, narrowed := true }
def OctetsWordsUptoSaid : Prop := octetsWordsUptoRow.holds Try.pinned (OpenSpec.upto octetsWordsSpec)

/-- 'mootlaw01.OctetsOwn', WHERE WHAT IT READS IS OF BULK AT MOST 1048576: true; the input reads as it did. -/
def octetsOwnUptoRow : OpenClaim := { program := "ytclmikbbjhdplaa", sum := "618e6d60dc4ed4887224cf05b61d274ac51eca7f12a135d9f688c3f6cb125fab", func := "moot/mootlaw01.OctetsOwn", spec := "octetsOwn", unfollowed := true, recurses := true, apart := false, narrowed := true }
def OctetsOwnUptoSaid : Prop := octetsOwnUptoRow.holds Try.pinned (OpenSpec.upto octetsOwnSpec)

/-- 'mootlaw03.WotsBack', WHERE WHAT IT READS IS OF BULK AT MOST 1048576: true; the input reads as it did. -/
def wotsBackUptoRow : OpenClaim := { program := "ytclmikbbjhdplaa", sum := "618e6d60dc4ed4887224cf05b61d274ac51eca7f12a135d9f688c3f6cb125fab", func := "moot/mootlaw03.WotsBack", spec := "wotsBack", unfollowed := true, recurses := true, apart := false, narrowed := true }
def WotsBackUptoSaid : Prop := wotsBackUptoRow.holds Try.pinned (OpenSpec.upto wotsBackSpec)

/-- 'mootlaw01.OctetsTells', WHERE WHAT IT READS IS OF BULK AT MOST 1048576: true; the input reads as it did. -/
def octetsTellsUptoRow : OpenClaim := { program := "ytclmikbbjhdplaa", sum := "618e6d60dc4ed4887224cf05b61d274ac51eca7f12a135d9f688c3f6cb125fab", func := "moot/mootlaw01.OctetsTells", spec := "octetsTells", unfollowed := true, recurses := true, apart := false, narrowed := true }
def OctetsTellsUptoSaid : Prop := octetsTellsUptoRow.holds Try.pinned (OpenSpec.upto octetsTellsSpec)

/-- 'mootlaw02.ShaTells', WHERE WHAT IT READS IS OF BULK AT MOST 1048576: true; the input reads as it did. -/
def shaTellsUptoRow : OpenClaim := { program := "ytclmikbbjhdplaa", sum := "618e6d60dc4ed4887224cf05b61d274ac51eca7f12a135d9f688c3f6cb125fab", func := "moot/mootlaw02.ShaTells", spec := "shaTells", unfollowed := true, recurses := true, apart := false, narrowed := true }
def ShaTellsUptoSaid : Prop := shaTellsUptoRow.holds Try.pinned (OpenSpec.upto shaTellsSpec)

/-- 'mootlaw02.ShaPads', WHERE WHAT IT READS IS OF BULK AT MOST 1048576: true; the input reads as it did. -/
def shaPadsUptoRow : OpenClaim := { program := "ytclmikbbjhdplaa", sum := "618e6d60dc4ed4887224cf05b61d274ac51eca7f12a135d9f688c3f6cb125fab", func := "moot/mootlaw02.ShaPads", spec := "shaPads", unfollowed := true, recurses := true, apart := false, narrowed := true }
def ShaPadsUptoSaid : Prop := shaPadsUptoRow.holds Try.pinned (OpenSpec.upto shaPadsSpec)

/-- 'mootlaw02.ShaParts', WHERE WHAT IT READS IS OF BULK AT MOST 1048576: true; the input reads as it did. -/
def shaPartsUptoRow : OpenClaim := { program := "ytclmikbbjhdplaa", sum := "618e6d60dc4ed4887224cf05b61d274ac51eca7f12a135d9f688c3f6cb125fab", func := "moot/mootlaw02.ShaParts", spec := "shaParts", unfollowed := true, recurses := true, apart := false, narrowed := true }
def ShaPartsUptoSaid : Prop := shaPartsUptoRow.holds Try.pinned (OpenSpec.upto shaPartsSpec)

/-- 'mootlaw03.WotsDigits', WHERE WHAT IT READS IS OF BULK AT MOST 1048576: true; the input reads as it did. -/
def wotsDigitsUptoRow : OpenClaim := { program := "ytclmikbbjhdplaa", sum := "618e6d60dc4ed4887224cf05b61d274ac51eca7f12a135d9f688c3f6cb125fab", func := "moot/mootlaw03.WotsDigits", spec := "wotsDigits", unfollowed := true, recurses := true, apart := false, narrowed := true }
def WotsDigitsUptoSaid : Prop := wotsDigitsUptoRow.holds Try.pinned (OpenSpec.upto wotsDigitsSpec)

/-- 'mootlaw03.WotsChains', WHERE WHAT IT READS IS OF BULK AT MOST 1048576: true; the input reads as it did. -/
def wotsChainsUptoRow : OpenClaim := { program := "ytclmikbbjhdplaa", sum := "618e6d60dc4ed4887224cf05b61d274ac51eca7f12a135d9f688c3f6cb125fab", func := "moot/mootlaw03.WotsChains", spec := "wotsChains", unfollowed := true, recurses := true, apart := false, narrowed := true }
def WotsChainsUptoSaid : Prop := wotsChainsUptoRow.holds Try.pinned (OpenSpec.upto wotsChainsSpec)

/-- 'mootlaw03.WotsTells', WHERE WHAT IT READS IS OF BULK AT MOST 1048576: true; the input reads as it did. -/
def wotsTellsUptoRow : OpenClaim := { program := "ytclmikbbjhdplaa", sum := "618e6d60dc4ed4887224cf05b61d274ac51eca7f12a135d9f688c3f6cb125fab", func := "moot/mootlaw03.WotsTells", spec := "wotsTells", unfollowed := true, recurses := true, apart := false, narrowed := true }
def WotsTellsUptoSaid : Prop := wotsTellsUptoRow.holds Try.pinned (OpenSpec.upto wotsTellsSpec)

/-- 'mootlaw03.WotsSigns', WHERE WHAT IT READS IS OF BULK AT MOST 1048576: true; the input reads as it did. -/
def wotsSignsUptoRow : OpenClaim := { program := "ytclmikbbjhdplaa", sum := "618e6d60dc4ed4887224cf05b61d274ac51eca7f12a135d9f688c3f6cb125fab", func := "moot/mootlaw03.WotsSigns", spec := "wotsSigns", unfollowed := true, recurses := true, apart := false, narrowed := true }
def WotsSignsUptoSaid : Prop := wotsSignsUptoRow.holds Try.pinned (OpenSpec.upto wotsSignsSpec)

end Rows
end Go.Proofs.Ytclmikbbjhdplaa
