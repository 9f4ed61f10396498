/- Plain facts on numbers and bytes (no program in sight). -/
import Derived.Test.YthhphmbhlddihaaEng
namespace Go.Proofs.Ythhphmbhlddihaa
open Go Go.RowKit
set_option linter.unusedVariables false

theorem wrap_u8 (n : Nat) : IntKind.u8.wrap (n : Int) = ((n % 256 : Nat) : Int) := by simp [IntKind.wrap, IntKind.signed, IntKind.bits]
theorem wrap_u32 (n : Nat) : IntKind.u32.wrap (n : Int) = ((n % 4294967296 : Nat) : Int) := by simp [IntKind.wrap, IntKind.signed, IntKind.bits]
theorem wrap_u64 (n : Nat) : IntKind.u64.wrap (n : Int) = ((n % 18446744073709551616 : Nat) : Int) := by simp [IntKind.wrap, IntKind.signed, IntKind.bits]
theorem wrap_u8_lt (n : Nat) (h : n < 256) : IntKind.u8.wrap (n : Int) = (n : Int) := by rw [wrap_u8, Nat.mod_eq_of_lt h]
theorem wrap_u32_lt (n : Nat) (h : n < 4294967296) : IntKind.u32.wrap (n : Int) = (n : Int) := by rw [wrap_u32, Nat.mod_eq_of_lt h]
theorem wrap_u64_lt (n : Nat) (h : n < 18446744073709551616) : IntKind.u64.wrap (n : Int) = (n : Int) := by rw [wrap_u64, Nat.mod_eq_of_lt h]
theorem ofInt_toNat (n a : Nat) (h : a < 2 ^ n) : (BitVec.ofInt n (a : Int)).toNat = a := by
  rw [BitVec.ofInt_natCast, BitVec.toNat_ofNat]; exact Nat.mod_eq_of_lt h
section
variable (a b : Nat)
theorem or_u8 (ha : a < 256) (hb : b < 256) : bitsK .or .u8 a b = ((a ||| b : Nat) : Int) := by
  show IntKind.u8.wrap ((BitVec.ofInt 8 (a : Int) ||| BitVec.ofInt 8 (b : Int)).toNat : Int) = _
  rw [BitVec.toNat_or, ofInt_toNat 8 a ha, ofInt_toNat 8 b hb, wrap_u8, Nat.mod_eq_of_lt (Nat.or_lt_two_pow (n := 8) ha hb)]
theorem xor_u8 (ha : a < 256) (hb : b < 256) : bitsK .xor .u8 a b = ((a ^^^ b : Nat) : Int) := by
  show IntKind.u8.wrap ((BitVec.ofInt 8 (a : Int) ^^^ BitVec.ofInt 8 (b : Int)).toNat : Int) = _
  rw [BitVec.toNat_xor, ofInt_toNat 8 a ha, ofInt_toNat 8 b hb, wrap_u8, Nat.mod_eq_of_lt (Nat.xor_lt_two_pow (n := 8) ha hb)]
theorem and_u8 (ha : a < 256) (hb : b < 256) : bitsK .and .u8 a b = ((a &&& b : Nat) : Int) := by
  show IntKind.u8.wrap ((BitVec.ofInt 8 (a : Int) &&& BitVec.ofInt 8 (b : Int)).toNat : Int) = _
  rw [BitVec.toNat_and, ofInt_toNat 8 a ha, ofInt_toNat 8 b hb, wrap_u8, Nat.mod_eq_of_lt (Nat.and_lt_two_pow (n := 8) _ hb)]
theorem or_u32 (ha : a < 4294967296) (hb : b < 4294967296) : bitsK .or .u32 a b = ((a ||| b : Nat) : Int) := by
  show IntKind.u32.wrap ((BitVec.ofInt 32 (a : Int) ||| BitVec.ofInt 32 (b : Int)).toNat : Int) = _
  rw [BitVec.toNat_or, ofInt_toNat 32 a ha, ofInt_toNat 32 b hb, wrap_u32, Nat.mod_eq_of_lt (Nat.or_lt_two_pow (n := 32) ha hb)]
theorem xor_u32 (ha : a < 4294967296) (hb : b < 4294967296) : bitsK .xor .u32 a b = ((a ^^^ b : Nat) : Int) := by
  show IntKind.u32.wrap ((BitVec.ofInt 32 (a : Int) ^^^ BitVec.ofInt 32 (b : Int)).toNat : Int) = _
  rw [BitVec.toNat_xor, ofInt_toNat 32 a ha, ofInt_toNat 32 b hb, wrap_u32, Nat.mod_eq_of_lt (Nat.xor_lt_two_pow (n := 32) ha hb)]
theorem and_u32 (ha : a < 4294967296) (hb : b < 4294967296) : bitsK .and .u32 a b = ((a &&& b : Nat) : Int) := by
  show IntKind.u32.wrap ((BitVec.ofInt 32 (a : Int) &&& BitVec.ofInt 32 (b : Int)).toNat : Int) = _
  rw [BitVec.toNat_and, ofInt_toNat 32 a ha, ofInt_toNat 32 b hb, wrap_u32, Nat.mod_eq_of_lt (Nat.and_lt_two_pow (n := 32) _ hb)]
theorem or_u64 (ha : a < 18446744073709551616) (hb : b < 18446744073709551616) : bitsK .or .u64 a b = ((a ||| b : Nat) : Int) := by
  show IntKind.u64.wrap ((BitVec.ofInt 64 (a : Int) ||| BitVec.ofInt 64 (b : Int)).toNat : Int) = _
  rw [BitVec.toNat_or, ofInt_toNat 64 a ha, ofInt_toNat 64 b hb, wrap_u64, Nat.mod_eq_of_lt (Nat.or_lt_two_pow (n := 64) ha hb)]
theorem and_u64 (ha : a < 18446744073709551616) (hb : b < 18446744073709551616) : bitsK .and .u64 a b = ((a &&& b : Nat) : Int) := by
  show IntKind.u64.wrap ((BitVec.ofInt 64 (a : Int) &&& BitVec.ofInt 64 (b : Int)).toNat : Int) = _
  rw [BitVec.toNat_and, ofInt_toNat 64 a ha, ofInt_toNat 64 b hb, wrap_u64, Nat.mod_eq_of_lt (Nat.and_lt_two_pow (n := 64) _ hb)]
end

/-- The last n bytes of a number, the greatest ahead. -/
def putL (x n : Nat) : List UInt8 := (List.range n).map fun i => UInt8.ofNat (x / 256 ^ (n - 1 - i))
theorem putL_length (x n : Nat) : (putL x n).length = n := by simp [putL]
/-- The number of some bytes. -/
def loadL (l : List UInt8) : Nat := l.foldl (fun x b => 256 * x + b.toNat) 0
theorem loadL_snoc (l : List UInt8) (b : UInt8) : loadL (l ++ [b]) = 256 * loadL l + b.toNat := by simp [loadL]
theorem foldl_lt : ∀ (l : List UInt8) (x k : Nat), x < 256 ^ k → l.foldl (fun x b => 256 * x + b.toNat) x < 256 ^ (k + l.length)
  | [], x, k, h => by simpa using h
  | b :: l, x, k, h => by
    have hb := b.toNat_lt
    have := foldl_lt l (256 * x + b.toNat) (k + 1) (by rw [Nat.pow_succ]; omega)
    simp only [List.foldl_cons, List.length_cons]
    have e : k + (l.length + 1) = k + 1 + l.length := by omega
    rw [e]
    exact this
theorem loadL_lt (l : List UInt8) : loadL l < 256 ^ l.length := by
  have := foldl_lt l 0 0 (by simp)
  simpa [loadL] using this
theorem take_succ_get {α : Type} (l : List α) (k : Nat) (h : k < l.length) : l.take (k + 1) = l.take k ++ [l[k]] := by
  rw [List.take_succ_eq_append_getElem h]
/-- What stands at a place. -/
def ldL (b : List UInt8) (at_ : Int) (n : Nat) : Option Nat := if 0 ≤ at_ ∧ at_.toNat + n ≤ b.length then some (loadL ((b.drop at_.toNat).take n)) else none
def ldV (b : List UInt8) (at_ : Int) (n : Nat) : Nat := (ldL b at_ n).getD 0
def ldB (b : List UInt8) (at_ : Int) (n : Nat) : Bool := (ldL b at_ n).isSome

/-- A turn by k places. -/
def rotS (x k : Nat) : Nat := x / 2 ^ k + (x % 2 ^ k) * 2 ^ (32 - k)
def rotK (n : Int) : Nat := (n % 32).toNat
def xorL (a b : List UInt8) : List UInt8 := List.zipWith (· ^^^ ·) a b
theorem xorL_length (a b : List UInt8) : (xorL a b).length = min a.length b.length := by simp [xorL]
theorem xor_bv (x y : UInt8) : bitsK .xor .u8 (x.toNat : Int) (y.toNat : Int) = ((x ^^^ y).toNat : Int) := by
  rw [xor_u8 _ _ x.toNat_lt y.toNat_lt, UInt8.toNat_xor]
theorem or_bv (x y : UInt8) : bitsK .or .u8 (x.toNat : Int) (y.toNat : Int) = ((x ||| y).toNat : Int) := by
  rw [or_u8 _ _ x.toNat_lt y.toNat_lt, UInt8.toNat_or]
theorem xorL_take_succ {a b : List UInt8} {k : Nat} (ha : k < a.length) (hb : k < b.length) : (xorL a b).take (k + 1) = (xorL a b).take k ++ [a[k] ^^^ b[k]] := by
  rw [take_succ_get _ _ (by rw [xorL_length]; omega)]
  simp [xorL]
theorem fdiv_nat (a b : Nat) : (a : Int).fdiv (b : Int) = ((a / b : Nat) : Int) := by rw [Int.fdiv_eq_ediv_of_nonneg _ (by omega)]; rfl
theorem tmod_nat (a b : Nat) : (a : Int).tmod (b : Int) = ((a % b : Nat) : Int) := rfl
theorem tdiv_nat (a b : Nat) : (a : Int).tdiv (b : Int) = ((a / b : Nat) : Int) := rfl
theorem rem_u32 (a b : Nat) (c : Int) (hc : c = (b : Int)) : (a : Int).tmod c = ((a % b : Nat) : Int) := by rw [hc]; rfl
theorem quo_u32 (a b : Nat) (c : Int) (hc : c = (b : Int)) (h : a < 4294967296) : IntKind.u32.wrap ((a : Int).tdiv c) = ((a / b : Nat) : Int) := by
  rw [hc, tdiv_nat, wrap_u32, Nat.mod_eq_of_lt (Nat.lt_of_le_of_lt (Nat.div_le_self _ _) h)]
theorem quo_u64 (a b : Nat) (c : Int) (hc : c = (b : Int)) (h : a < 18446744073709551616) : IntKind.u64.wrap ((a : Int).tdiv c) = ((a / b : Nat) : Int) := by
  rw [hc, tdiv_nat, wrap_u64, Nat.mod_eq_of_lt (Nat.lt_of_le_of_lt (Nat.div_le_self _ _) h)]
theorem tmod32 (n : Int) : n.tmod 32 = if 0 ≤ n then n % 32 else -((-n) % 32) := by
  split
  · rename_i h; exact Int.tmod_eq_emod_of_nonneg h
  · rename_i h
    have h2 : n = -(-n) := by omega
    rw [h2, Int.neg_tmod, Int.tmod_eq_emod_of_nonneg (by omega)]
    simp
theorem rot_mod (n : Int) : (n.tmod 32 + 32).tmod 32 = (rotK n : Int) := by
  unfold rotK
  rw [Int.tmod_eq_emod_of_nonneg (by rw [tmod32]; split <;> omega), tmod32]
  split <;> omega
theorem rotK_lt (n : Int) : rotK n < 32 := by unfold rotK; omega
theorem rotS_zero (x : Nat) : rotS x 0 = x := by simp [rotS, Nat.mod_one]
theorem rotS_lt {x k : Nat} (hx : x < 4294967296) (hk : k ≤ 32) : rotS x k < 4294967296 := by
  unfold rotS
  have e : (4294967296 : Nat) = 2 ^ k * 2 ^ (32 - k) := by rw [← Nat.pow_add, show k + (32 - k) = 32 by omega]
  have h1 : x / 2 ^ k < 2 ^ (32 - k) := by rw [Nat.div_lt_iff_lt_mul (Nat.two_pow_pos k)]; rw [Nat.mul_comm, ← e]; exact hx
  have h2 : x % 2 ^ k + 1 ≤ 2 ^ k := Nat.mod_lt _ (Nat.two_pow_pos k)
  have h3 := Nat.mul_le_mul_right (2 ^ (32 - k)) h2
  rw [Nat.add_mul, ← e] at h3
  omega
theorem rotS_succ {x k : Nat} (hk : k < 32) : rotS x (k + 1) = rotS x k / 2 + rotS x k % 2 * 2147483648 := by
  unfold rotS
  obtain ⟨q, r, hr, hx⟩ : ∃ q r, r < 2 ^ k ∧ x = q * 2 ^ k + r := ⟨x / 2 ^ k, x % 2 ^ k, Nat.mod_lt _ (Nat.two_pow_pos k), by rw [Nat.mul_comm]; exact (Nat.div_add_mod x (2 ^ k)).symm⟩
  have e1 : x / 2 ^ k = q := by rw [hx, Nat.mul_comm, Nat.mul_add_div (Nat.two_pow_pos k), Nat.div_eq_of_lt hr]; rfl
  have e2 : x % 2 ^ k = r := by rw [hx, Nat.mul_comm, Nat.mul_add_mod, Nat.mod_eq_of_lt hr]
  have e3 : x / 2 ^ (k + 1) = q / 2 := by rw [Nat.pow_succ, ← Nat.div_div_eq_div_mul, e1]
  have e4 : x % 2 ^ (k + 1) = q % 2 * 2 ^ k + r := by
    rw [Nat.pow_succ, Nat.mod_mul, e1, e2, Nat.mul_comm, Nat.add_comm]
  have p1 : 2 ^ (32 - k) = 2 * 2 ^ (32 - (k + 1)) := by rw [← Nat.pow_succ']; congr 1; omega
  have p2 : 2 ^ k * 2 ^ (32 - (k + 1)) = 2147483648 := by rw [← Nat.pow_add, show k + (32 - (k + 1)) = 31 by omega]
  rw [e1, e2, e3, e4, p1]
  generalize 2 ^ (32 - (k + 1)) = z at *
  have h1 : (q + r * (2 * z)) / 2 = q / 2 + r * z := by
    rw [show r * (2 * z) = 2 * (r * z) by rw [Nat.mul_left_comm], Nat.add_mul_div_left _ _ (by decide)]
  have h2 : (q + r * (2 * z)) % 2 = q % 2 := by
    rw [show r * (2 * z) = 2 * (r * z) by rw [Nat.mul_left_comm], Nat.add_mul_mod_self_left]
  rw [h1, h2, Nat.add_mul, Nat.mul_assoc, p2]
  omega
/-- A turn out of two shifts. -/
theorem rot_or {x s : Nat} (hx : x < 4294967296) (hs : s < 32) : (x * 2 ^ s % 4294967296) ||| (x / 2 ^ (32 - s)) = rotS x ((32 - s) % 32) := by
  by_cases h0 : s = 0
  · subst h0
    rw [Nat.pow_zero, Nat.mul_one, Nat.mod_eq_of_lt hx, Nat.div_eq_of_lt hx, Nat.or_zero]
    exact (rotS_zero x).symm
  · have hk : (32 - s) % 32 = 32 - s := Nat.mod_eq_of_lt (by omega)
    rw [hk]
    unfold rotS
    have hss : 32 - (32 - s) = s := by omega
    rw [hss]
    have e : (4294967296 : Nat) = 2 ^ (32 - s) * 2 ^ s := by rw [← Nat.pow_add, show 32 - s + s = 32 by omega]
    have h1 : x * 2 ^ s % 4294967296 = (x % 2 ^ (32 - s)) * 2 ^ s := by rw [e, Nat.mul_mod_mul_right]
    have h2 : x / 2 ^ (32 - s) < 2 ^ s := by rw [Nat.div_lt_iff_lt_mul (Nat.two_pow_pos _), Nat.mul_comm, ← e]; exact hx
    rw [h1, Nat.mul_comm (x % 2 ^ (32 - s)), ← Nat.two_pow_add_eq_or_of_lt h2, Nat.add_comm]
end Go.Proofs.Ythhphmbhlddihaa
