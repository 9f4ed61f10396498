/- A number's own bits. No program in sight. -/
import Derived.Test.YthhphmbhlddihaaPlain1
namespace Go.Proofs.Ythhphmbhlddihaa
open Go Go.RowKit
/-- A number's own 64 bits. -/
def u64N (n : Int) : Nat := (n % 18446744073709551616).toNat
theorem u64N_lt (n : Int) : u64N n < 18446744073709551616 := by unfold u64N; omega
theorem wrap_u64I (n : Int) : IntKind.u64.wrap n = (u64N n : Int) := by
  have h : IntKind.u64.wrap n = n % 18446744073709551616 := by simp [IntKind.wrap, IntKind.signed, IntKind.bits]
  rw [h]; unfold u64N; omega
def u32N (n : Int) : Nat := (n % 4294967296).toNat
theorem u32N_lt (n : Int) : u32N n < 4294967296 := by unfold u32N; omega
theorem wrap_u32I (n : Int) : IntKind.u32.wrap n = (u32N n : Int) := by
  have h : IntKind.u32.wrap n = n % 4294967296 := by simp [IntKind.wrap, IntKind.signed, IntKind.bits]
  rw [h]; unfold u32N; omega
/-- Numbers, one behind the other. -/
def numsB (l : List Int) : List UInt8 := (l.map fun n => putL (u64N n) 8).flatten
theorem numsB_length (l : List Int) : (numsB l).length = 8 * l.length := by
  induction l with
  | nil => rfl
  | cons n l ih => simp only [numsB, List.map_cons, List.flatten_cons, List.length_append, putL_length, List.length_cons] at ih ⊢; omega
theorem numsB_snoc (l : List Int) (n : Int) : numsB (l ++ [n]) = numsB l ++ putL (u64N n) 8 := by simp [numsB]
def iv (n : Int) : Value := .int .i64 n
end Go.Proofs.Ythhphmbhlddihaa
