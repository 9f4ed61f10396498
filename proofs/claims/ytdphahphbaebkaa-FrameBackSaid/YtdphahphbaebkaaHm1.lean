/- Walks: HMAC, the program's and the reference's. -/
import Derived.Test.YtdphahphbaebkaaSha5
import Derived.Test.YtdphahphbaebkaaSha7
import Derived.Test.YtdphahphbaebkaaInc
import Derived.Test.YtdphahphbaebkaaHmP
namespace Go.Proofs.Ytdphahphbaebkaa
open Go Go.RowKit
set_option linter.unusedVariables false
set_option maxRecDepth 4000
theorem h_slp_Tag : SlP Try.prog 50 32 := ⟨fun w g => by kernel_rfl⟩
theorem bs_zeros {w : World} {g n : Nat} {T : TypeId} (hb : Blk w g T (Array.replicate n (.int .u8 0))) : Bs w (some ⟨g, 0, none⟩) (List.replicate n 0) := by
  unfold Bs
  have := hb.rd
  rwa [Array.toList_replicate, show List.replicate n (Value.int .u8 0) = (List.replicate n (0 : UInt8)).map bv by rw [List.map_replicate]; rfl] at this
theorem bs_row {w : World} {g : Nat} {T : TypeId} {l : List UInt8} (hb : Blk w g T (l.map bv).toArray) : Bs w (some ⟨g, 0, none⟩) l := by
  unfold Bs
  simpa using hb.rd
def xorT (x : UInt8) (l : List UInt8) (k : Nat) : List UInt8 := (l.take k).map (· ^^^ x) ++ l.drop k
theorem xorT_length (x : UInt8) (l : List UInt8) (k : Nat) : (xorT x l k).length = l.length := by simp [xorT]; omega
theorem xorT_get {x : UInt8} {l : List UInt8} {k : Nat} (h : k < l.length) : (xorT x l k)[k]'(by rw [xorT_length]; exact h) = l[k] := by
  unfold xorT
  rw [List.getElem_append_right (by simp; omega)]
  simp [Nat.min_eq_left (Nat.le_of_lt h)]
theorem xorT_set {x : UInt8} {l : List UInt8} {k : Nat} (h : k < l.length) : (xorT x l k).set k (l[k] ^^^ x) = xorT x l (k + 1) := by
  unfold xorT
  rw [List.set_append_right _ _ (by simp; omega)]
  rw [take_succ_get _ _ h, List.map_append, List.append_assoc]
  simp [Nat.min_eq_left (Nat.le_of_lt h)]
  rw [List.drop_eq_getElem_cons h]
  rfl
end Go.Proofs.Ytdphahphbaebkaa
