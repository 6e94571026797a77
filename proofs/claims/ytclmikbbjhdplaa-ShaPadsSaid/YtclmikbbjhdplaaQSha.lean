/- The sum of octets, as lists of words: what the code of sha comes to, in plain Lean. -/
import Derived.Test.YtclmikbbjhdplaaXF68
import Derived.Test.YtclmikbbjhdplaaXF19
namespace Go.Proofs.Ytclmikbbjhdplaa.X
open Go.RowKit Go.Proofs.YtclmikbbjhdplaaW.PrintWords Go.Proofs.YtclmikbbjhdplaaW.PrintLast Go.Proofs.YtclmikbbjhdplaaW.PrintMore
set_option linter.unusedVariables false
set_option linter.unusedSimpArgs false

/-- A word turned to the right, as math/bits does it. -/
def rotA (x n : Int) : Int := Go.bits .or .u32 (shl .u32 x (32 - n)) (shr .u32 x n)
theorem right_of (x n m : Int) (e : Go.bits .and .u64 (IntKind.u64.wrap (wrap64 (-n))) 31 = m) (hm : m = 32 - n) (h0 : 0 ≤ m) (h1 : 0 ≤ n) (h2 : n < 32) : sha_right.f x n = some (rotA x n) := by
  have e2 : IntKind.u64.wrap (32 - m) = n := by rw [IntKind.wrap_u64]; omega
  simp only [sha_right.f, bits_RotateLeft32.f, e, e2, Option.bind_some]
  rw [if_pos h0, if_pos h1, Option.bind_some, rotA, hm]
theorem right2 (x : Int) : sha_right.f x 2 = some (rotA x 2) := right_of x 2 30 (by decide +kernel) (by omega) (by omega) (by omega) (by omega)
theorem right6 (x : Int) : sha_right.f x 6 = some (rotA x 6) := right_of x 6 26 (by decide +kernel) (by omega) (by omega) (by omega) (by omega)
theorem right7 (x : Int) : sha_right.f x 7 = some (rotA x 7) := right_of x 7 25 (by decide +kernel) (by omega) (by omega) (by omega) (by omega)
theorem right11 (x : Int) : sha_right.f x 11 = some (rotA x 11) := right_of x 11 21 (by decide +kernel) (by omega) (by omega) (by omega) (by omega)
theorem right13 (x : Int) : sha_right.f x 13 = some (rotA x 13) := right_of x 13 19 (by decide +kernel) (by omega) (by omega) (by omega) (by omega)
theorem right17 (x : Int) : sha_right.f x 17 = some (rotA x 17) := right_of x 17 15 (by decide +kernel) (by omega) (by omega) (by omega) (by omega)
theorem right18 (x : Int) : sha_right.f x 18 = some (rotA x 18) := right_of x 18 14 (by decide +kernel) (by omega) (by omega) (by omega) (by omega)
theorem right19 (x : Int) : sha_right.f x 19 = some (rotA x 19) := right_of x 19 13 (by decide +kernel) (by omega) (by omega) (by omega) (by omega)
theorem right22 (x : Int) : sha_right.f x 22 = some (rotA x 22) := right_of x 22 10 (by decide +kernel) (by omega) (by omega) (by omega) (by omega)
theorem right25 (x : Int) : sha_right.f x 25 = some (rotA x 25) := right_of x 25 7 (by decide +kernel) (by omega) (by omega) (by omega) (by omega)

def wordA (l : List Int) (t : Int) : Int := (octets_Word.f 6 l t).getD 0
/-- The next word of a block's schedule. -/
def nextW (ws : List Int) (t : Int) : Int :=
  (Go.bits .xor .u32 (Go.bits .xor .u32 (rotA (rd ws (t - 2)) 17) (rotA (rd ws (t - 2)) 19)) (rd ws (t - 2) / 1024) + rd ws (t - 7) + Go.bits .xor .u32 (Go.bits .xor .u32 (rotA (rd ws (t - 15)) 7) (rotA (rd ws (t - 15)) 18)) (rd ws (t - 15) / 8) + rd ws (t - 16)) % 4294967296
def wsA (l : List Int) : Nat → List Int
  | 0 => []
  | n + 1 => wsA l n ++ [if n < 16 then wordA l (4 * n) else nextW (wsA l n) n]
theorem wsA_len (l : List Int) : ∀ n, (wsA l n).length = n
  | 0 => rfl
  | n + 1 => by simp [wsA, wsA_len l n]
def pad64 (ws : List Int) : List Int := ws ++ List.replicate (64 - ws.length) 0
theorem pad64_len (ws : List Int) (h : ws.length ≤ 64) : (pad64 ws).length = 64 := by simp [pad64]; omega
theorem pad64_all (ws : List Int) (h : ws.length = 64) : pad64 ws = ws := by simp [pad64, h]
theorem pad64_set (ws : List Int) (x : Int) (h : ws.length < 64) : (pad64 ws).set ws.length x = pad64 (ws ++ [x]) := by
  have e : 64 - ws.length = (64 - (ws.length + 1)) + 1 := by omega
  simp only [pad64, List.length_append, List.length_cons, List.length_nil, Nat.zero_add]
  rw [e, List.replicate_succ, List.set_append_right _ _ (Nat.le_refl _)]
  simp
theorem pad64_get (ws : List Int) (i : Nat) (h : i < ws.length) : (pad64 ws)[i]? = some (rd ws i) := by
  rw [pad64, List.getElem?_append_left h]
  simp [rd, List.getD, List.getElem?_eq_getElem h]
def K0 : List Int := [1116352408, 1899447441, 3049323471, 3921009573, 961987163, 1508970993, 2453635748, 2870763221, 3624381080, 310598401, 607225278, 1426881987, 1925078388, 2162078206, 2614888103, 3248222580, 3835390401, 4022224774, 264347078, 604807628, 770255983, 1249150122, 1555081692, 1996064986, 2554220882, 2821834349, 2952996808, 3210313671, 3336571891, 3584528711, 113926993, 338241895, 666307205, 773529912, 1294757372, 1396182291, 1695183700, 1986661051, 2177026350, 2456956037, 2730485921, 2820302411, 3259730800, 3345764771, 3516065817, 3600352804, 4094571909, 275423344, 430227734, 506948616, 659060556, 883997877, 958139571, 1322822218, 1537002063, 1747873779, 1955562222, 2024104815, 2227730452, 2361852424, 2428436474, 2756734187, 3204031479, 3329325298]
def S1f (v : List Int) : Int := Go.bits .xor .u32 (Go.bits .xor .u32 (rotA (rd v 4) 6) (rotA (rd v 4) 11)) (rotA (rd v 4) 25)
def S0f (v : List Int) : Int := Go.bits .xor .u32 (Go.bits .xor .u32 (rotA (rd v 0) 2) (rotA (rd v 0) 13)) (rotA (rd v 0) 22)
def t1f (v : List Int) (k w : Int) : Int := ((rd v 7 + S1f v + Go.bits .xor .u32 (Go.bits .and .u32 (rd v 4) (rd v 5)) (Go.bits .and .u32 (Go.bits .xor .u32 (4294967295) (rd v 4)) (rd v 6)) + k) % 4294967296 + w) % 4294967296
def t2f (v : List Int) : Int := S0f v + Go.bits .xor .u32 (Go.bits .xor .u32 (Go.bits .and .u32 (rd v 0) (rd v 1)) (Go.bits .and .u32 (rd v 0) (rd v 2))) (Go.bits .and .u32 (rd v 1) (rd v 2))
/-- One round over the eight words. -/
def roundA (v : List Int) (k w : Int) : List Int := [(t1f v k w + t2f v) % 4294967296, rd v 0, rd v 1, rd v 2, (rd v 3 + t1f v k w) % 4294967296, rd v 4, rd v 5, rd v 6]
def roundsA (v ks ws : List Int) : Nat → List Int
  | 0 => v
  | n + 1 => roundA (roundsA v ks ws n) (rd ks n) (rd ws n)
theorem roundsA_len {v ks ws : List Int} (h : v.length = 8) : ∀ n, (roundsA v ks ws n).length = 8
  | 0 => h
  | n + 1 => rfl
/-- The first n words added. -/
def addA (v s : List Int) : Nat → List Int
  | 0 => v
  | n + 1 => (addA v s n).set n ((rd (addA v s n) n + rd s n) % 4294967296)
theorem addA_len (v s : List Int) : ∀ n, (addA v s n).length = v.length
  | 0 => rfl
  | n + 1 => by rw [addA, List.length_set, addA_len v s n]
def blockA (s ks l : List Int) : List Int := addA (roundsA s ks (wsA l 64) 64) s 8
end Go.Proofs.Ytclmikbbjhdplaa.X
