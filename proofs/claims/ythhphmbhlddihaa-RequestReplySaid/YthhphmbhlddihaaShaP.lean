/- SHA-256, plainly: numbers of 32 bits, the schedule, a round, a block, blocks, the end, the tag. No program in sight. -/
import Derived.Test.YthhphmbhlddihaaPlain1
namespace Go.Proofs.Ythhphmbhlddihaa
open Go Go.RowKit
set_option linter.unusedVariables false

/-- A number of 32 bits, as a value. -/
abbrev uv (x : UInt32) : Value := .int .u32 (x.toNat : Int)
theorem u32_lt (x : UInt32) : x.toNat < 4294967296 := x.toNat_lt
theorem uv_add (x y : UInt32) : IntKind.u32.wrap ((x.toNat : Int) + (y.toNat : Int)) = ((x + y).toNat : Int) := by
  rw [show (x.toNat : Int) + (y.toNat : Int) = ((x.toNat + y.toNat : Nat) : Int) by simp, wrap_u32, UInt32.toNat_add]
theorem uv_and (x y : UInt32) : bitsK .and .u32 (x.toNat : Int) (y.toNat : Int) = ((x &&& y).toNat : Int) := by
  rw [and_u32 _ _ (u32_lt x) (u32_lt y), UInt32.toNat_and]
theorem uv_or (x y : UInt32) : bitsK .or .u32 (x.toNat : Int) (y.toNat : Int) = ((x ||| y).toNat : Int) := by
  rw [or_u32 _ _ (u32_lt x) (u32_lt y), UInt32.toNat_or]
theorem uv_xor (x y : UInt32) : bitsK .xor .u32 (x.toNat : Int) (y.toNat : Int) = ((x ^^^ y).toNat : Int) := by
  rw [xor_u32 _ _ (u32_lt x) (u32_lt y), UInt32.toNat_xor]
theorem uv_not (x : UInt32) : bitsK .xor .u32 4294967295 (x.toNat : Int) = ((~~~ x).toNat : Int) := by
  rw [show (4294967295 : Int) = (((~~~ (0 : UInt32)).toNat : Nat) : Int) by rfl, uv_xor]
  congr 2
/-- Moved to the right, to the left. -/
def shU (x : UInt32) (k : Nat) : UInt32 := UInt32.ofNat (x.toNat / 2 ^ k)
def slU (x : UInt32) (k : Nat) : UInt32 := UInt32.ofNat (x.toNat * 2 ^ k)
theorem shU_nat (x : UInt32) (k : Nat) : (shU x k).toNat = x.toNat / 2 ^ k := by
  unfold shU
  rw [UInt32.toNat_ofNat']
  exact Nat.mod_eq_of_lt (Nat.lt_of_le_of_lt (Nat.div_le_self _ _) (u32_lt x))
theorem slU_nat (x : UInt32) (k : Nat) : (slU x k).toNat = x.toNat * 2 ^ k % 4294967296 := by
  unfold slU
  rw [UInt32.toNat_ofNat']
theorem uv_shr (x : UInt32) (b : Int) (k : Nat) (hb : b = (k : Int)) (hk : k ≤ 32) : (x.toNat : Int).fdiv (2 ^ (min b.toNat IntKind.u32.bits)) = ((shU x k).toNat : Int) := by
  subst hb
  rw [shU_nat, show min ((k : Int)).toNat IntKind.u32.bits = k by simp [IntKind.bits]; omega]
  have := fdiv_nat x.toNat (2 ^ k)
  simpa using this
theorem uv_shl (x : UInt32) (b : Int) (k : Nat) (hb : b = (k : Int)) (hk : k ≤ 32) : IntKind.u32.wrap ((x.toNat : Int) * 2 ^ (min b.toNat IntKind.u32.bits)) = ((slU x k).toNat : Int) := by
  subst hb
  rw [slU_nat, show min ((k : Int)).toNat IntKind.u32.bits = k by simp [IntKind.bits]; omega]
  have := wrap_u32 (x.toNat * 2 ^ k)
  simpa using this
/-- Turned. -/
def rotU (x : UInt32) (k : Nat) : UInt32 := UInt32.ofNat (rotS x.toNat k)
theorem rotU_nat (x : UInt32) {k : Nat} (hk : k ≤ 32) : (rotU x k).toNat = rotS x.toNat k := by
  unfold rotU
  rw [UInt32.toNat_ofNat']
  exact Nat.mod_eq_of_lt (rotS_lt (u32_lt x) hk)
theorem rot_shifts (x : UInt32) {k : Nat} (h0 : 0 < k) (hk : k < 32) : shU x k ||| slU x (32 - k) = rotU x k := by
  apply UInt32.toNat_inj.1
  rw [UInt32.toNat_or, shU_nat, slU_nat, rotU_nat x (by omega), Nat.or_comm]
  have := rot_or (x := x.toNat) (s := 32 - k) (u32_lt x) (by omega)
  rw [show 32 - (32 - k) = k by omega, Nat.mod_eq_of_lt hk] at this
  exact this
def turnU (x : UInt32) (a b c : Nat) : UInt32 := rotU x a ^^^ rotU x b ^^^ rotU x c
def smallU (x : UInt32) (a b c : Nat) : UInt32 := rotU x a ^^^ rotU x b ^^^ shU x c
theorem ch_eq (e f g : UInt32) : (e &&& f) ^^^ (~~~ e &&& g) = (e &&& f ||| ~~~ e &&& g) := by
  apply UInt32.toBitVec_inj.1
  simp only [UInt32.toBitVec_xor, UInt32.toBitVec_and, UInt32.toBitVec_not, UInt32.toBitVec_or]
  ext i
  simp
  cases e.toBitVec[i] <;> cases f.toBitVec[i] <;> cases g.toBitVec[i] <;> rfl
theorem maj_eq (a b c : UInt32) : (a &&& b) ^^^ (a &&& c) ^^^ (b &&& c) = (a &&& b ||| a &&& c ||| b &&& c) := by
  apply UInt32.toBitVec_inj.1
  simp only [UInt32.toBitVec_xor, UInt32.toBitVec_and, UInt32.toBitVec_or]
  ext i
  simp
  cases a.toBitVec[i] <;> cases b.toBitVec[i] <;> cases c.toBitVec[i] <;> rfl

/-- The schedule. -/
def nxt (b : List UInt8) (w : List UInt32) (t : Nat) : UInt32 :=
  if t < 16 then UInt32.ofNat (ldV b (4 * t : Nat) 4) else smallU (w.getD (t - 2) 0) 17 19 10 + w.getD (t - 7) 0 + smallU (w.getD (t - 15) 0) 7 18 3 + w.getD (t - 16) 0
def sch (b : List UInt8) : Nat → List UInt32
  | 0 => []
  | t + 1 => sch b t ++ [nxt b (sch b t) t]
theorem sch_length (b : List UInt8) : ∀ t, (sch b t).length = t
  | 0 => rfl
  | t + 1 => by simp [sch, sch_length b t]
/-- The constants. -/
def kL : List UInt32 := [1116352408, 1899447441, 3049323471, 3921009573, 961987163, 1508970993, 2453635748, 2870763221, 3624381080, 310598401, 607225278, 1426881987, 1925078388, 2162078206, 2614888103, 3248222580, 3835390401, 4022224774, 264347078, 604807628, 770255983, 1249150122, 1555081692, 1996064986, 2554220882, 2821834349, 2952996808, 3210313671, 3336571891, 3584528711, 113926993, 338241895, 666307205, 773529912, 1294757372, 1396182291, 1695183700, 1986661051, 2177026350, 2456956037, 2730485921, 2820302411, 3259730800, 3345764771, 3516065817, 3600352804, 4094571909, 275423344, 430227734, 506948616, 659060556, 883997877, 958139571, 1322822218, 1537002063, 1747873779, 1955562222, 2024104815, 2227730452, 2361852424, 2428436474, 2756734187, 3204031479, 3329325298]
theorem kL_length : kL.length = 64 := by rfl
/-- The eight numbers. -/
structure N8 where
  a : UInt32
  b : UInt32
  c : UInt32
  d : UInt32
  e : UInt32
  f : UInt32
  g : UInt32
  h : UInt32
def N8.l (s : N8) : List UInt32 := [s.a, s.b, s.c, s.d, s.e, s.f, s.g, s.h]
def N8.cells (s : N8) : List Value := s.l.map uv
theorem N8.cells_length (s : N8) : s.cells.length = 8 := rfl
theorem N8.l_length (s : N8) : s.l.length = 8 := rfl
def one8 (s : N8) (k w : UInt32) : UInt32 := s.h + turnU s.e 6 11 25 + (s.e &&& s.f ||| ~~~ s.e &&& s.g) + k + w
def two8 (s : N8) : UInt32 := turnU s.a 2 13 22 + (s.a &&& s.b ||| s.a &&& s.c ||| s.b &&& s.c)
def rnd (s : N8) (k w : UInt32) : N8 := ⟨one8 s k w + two8 s, s.a, s.b, s.c, s.d + one8 s k w, s.e, s.f, s.g⟩
def rnds (b : List UInt8) (s : N8) : Nat → N8
  | 0 => s
  | t + 1 => rnd (rnds b s t) (kL.getD t 0) ((sch b 64).getD t 0)
def N8.add (s x : N8) : N8 := ⟨s.a + x.a, s.b + x.b, s.c + x.c, s.d + x.d, s.e + x.e, s.f + x.f, s.g + x.g, s.h + x.h⟩
def blk (s : N8) (b : List UInt8) : N8 := s.add (rnds b s 64)
def iv8 : N8 := ⟨0x6a09e667, 0xbb67ae85, 0x3c6ef372, 0xa54ff53a, 0x510e527f, 0x9b05688c, 0x1f83d9ab, 0x5be0cd19⟩
/-- The n-th block. -/
def chunk (l : List UInt8) (i : Nat) : List UInt8 := (l.drop (64 * i)).take 64
theorem chunk_length {l : List UInt8} {i : Nat} (h : i < l.length / 64) : (chunk l i).length = 64 := by
  unfold chunk
  rw [List.length_take, List.length_drop]
  omega
theorem chunk_app {a b : List UInt8} {i : Nat} (h : i < a.length / 64) : chunk (a ++ b) i = chunk a i := by
  unfold chunk
  rw [List.drop_append_of_le_length (by omega), List.take_append_of_le_length (by rw [List.length_drop]; omega)]
theorem chunk_right {a b : List UInt8} {n i : Nat} (h : a.length = 64 * n) : chunk (a ++ b) (n + i) = chunk b i := by
  unfold chunk
  rw [List.drop_append, List.drop_eq_nil_of_le (by omega), List.nil_append]
  congr 2
  omega
def runB (s : N8) (l : List UInt8) : Nat → N8
  | 0 => s
  | n + 1 => blk (runB s l n) (chunk l n)
theorem runB_app (s : N8) (a b : List UInt8) : ∀ n, n ≤ a.length / 64 → runB s (a ++ b) n = runB s a n
  | 0, _ => rfl
  | n + 1, h => by unfold runB; rw [runB_app s a b n (by omega), chunk_app (by omega)]
theorem runB_right (s : N8) (a b : List UInt8) (n : Nat) (h : a.length = 64 * n) : ∀ m, runB s (a ++ b) (n + m) = runB (runB s a n) b m
  | 0 => by rw [Nat.add_zero, runB_app s a b n (by omega)]; rfl
  | m + 1 => by
    show blk (runB s (a ++ b) (n + m)) (chunk (a ++ b) (n + m)) = _
    rw [runB_right s a b n h m, chunk_right h]
    rfl
/-- All whole blocks of some bytes; what is left. -/
def allB (s : N8) (l : List UInt8) : N8 := runB s l (l.length / 64)
def restB (l : List UInt8) : List UInt8 := l.drop (64 * (l.length / 64))
theorem restB_length (l : List UInt8) : (restB l).length = l.length % 64 := by unfold restB; rw [List.length_drop]; omega
theorem full_length (l : List UInt8) : (l.take (64 * (l.length / 64))).length = 64 * (l.length / 64) := by rw [List.length_take]; omega
theorem full_rest (l : List UInt8) : l.take (64 * (l.length / 64)) ++ restB l = l := List.take_append_drop _ _
theorem runB_take (s : N8) (l : List UInt8) : runB s (l.take (64 * (l.length / 64))) (l.length / 64) = allB s l := by
  have h := full_length l
  conv => rhs; unfold allB; rw [show runB s l = runB s (l.take (64 * (l.length / 64)) ++ restB l) by rw [full_rest]]
  rw [runB_app _ _ _ _ (by omega)]
/-- What comes behind goes on from there. -/
theorem allB_app (s : N8) (l b : List UInt8) : allB s (l ++ b) = allB (allB s l) (restB l ++ b) ∧ restB (l ++ b) = restB (restB l ++ b) := by
  have h := full_length l
  have e : l ++ b = l.take (64 * (l.length / 64)) ++ (restB l ++ b) := by rw [← List.append_assoc, full_rest]
  have hn : (l ++ b).length / 64 = l.length / 64 + (restB l ++ b).length / 64 := by
    rw [List.length_append, List.length_append, restB_length]; omega
  constructor
  · show runB s (l ++ b) ((l ++ b).length / 64) = _
    rw [hn]
    conv => lhs; rw [e]
    rw [runB_right _ _ _ _ h, runB_take]
    rfl
  · conv => lhs; unfold restB; rw [hn, e]
    rw [List.drop_append, List.drop_eq_nil_of_le (by omega), List.nil_append, h]
    unfold restB
    congr 1
    omega
/-- What stands behind all bytes. -/
def tailB (n : Nat) : List UInt8 := 0x80 :: (List.replicate ((119 - n % 64) % 64) 0 ++ putL (8 * n % 18446744073709551616) 8)
theorem tail_length (n : Nat) : (n + (tailB n).length) % 64 = 0 := by unfold tailB; simp [putL_length]; omega
def shaN (l : List UInt8) : N8 := allB iv8 (l ++ tailB l.length)
def outB (s : N8) : List UInt8 := (s.l.map fun x => putL x.toNat 4).flatten
def shaL (l : List UInt8) : List UInt8 := outB (shaN l)
theorem outB_length (s : N8) : (outB s).length = 32 := by simp [outB, N8.l, putL_length]
theorem shaL_length (l : List UInt8) : (shaL l).length = 32 := outB_length _
theorem shaN_rest (l : List UInt8) : shaN l = allB (allB iv8 l) (restB l ++ tailB l.length) := (allB_app iv8 l _).1
end Go.Proofs.Ythhphmbhlddihaa
