/- What is written is read back; what is cut off is not. Plainly. -/
import Derived.Test.YthhphmbhlddihaaWireX
import Derived.Test.YthhphmbhlddihaaPutL
namespace Go.Proofs.Ythhphmbhlddihaa
open Go Go.RowKit
set_option linter.unusedVariables false
set_option maxRecDepth 4000
theorem i64_back {n : Int} (h : I64 n) : i64L (putL (u64N n) 8) = n := by
  unfold i64L
  rw [loadL_putL 8 _ (by have := u64N_lt n; omega)]
  unfold I64 at h
  unfold u64N
  simp [IntKind.wrap, IntKind.signed, IntKind.bits]
  omega
theorem i64_there (l : List UInt8) (h : l.length = 8) : putL (u64N (i64L l)) 8 = l := by
  have hlt := loadL_lt l
  rw [h] at hlt
  have : u64N (i64L l) = loadL l := by
    unfold i64L u64N
    simp [IntKind.wrap, IntKind.signed, IntKind.bits]
    omega
  rw [this, putL_loadL 8 l h]
theorem fitsW_ok {l r : List UInt8} {n : Int} (h : n = l.length) : fits (l ++ r, 0) n = true := decide_eq_true ⟨rfl, by omega, by simp; omega⟩
theorem stW_ok {l r : List UInt8} {n : Int} (h : n = l.length) : stepS (l ++ r, 0) n true = (r, 0) := by
  unfold stepS
  rw [if_neg (by simp), if_neg (by simp; omega), if_pos rfl]
  subst h
  simp
theorem stW_short {l : List UInt8} {n : Int} {b : Bool} (h : (l.length : Int) < n) : stepS (l, 0) n b = ([], 40) := by
  unfold stepS
  rw [if_neg (by simp), if_pos (.inr h)]
theorem stW_bad {s : List UInt8 × Int} {n : Int} {b : Bool} (h : s.2 ≠ 0) : stepS s n b = s := by
  unfold stepS
  rw [if_pos h]
theorem fitsW_bad {s : List UInt8 × Int} {n : Int} (h : s.2 ≠ 0) : fits s n = false := decide_eq_false fun hh => h hh.1
theorem len_ok {l r : List UInt8} (h : l.length ≤ 65536) : lenOk (putL l.length 4 ++ (l ++ r), 0) = true ∧ lenN (putL l.length 4 ++ (l ++ r), 0) = l.length := by
  have ht : (putL l.length 4 ++ (l ++ r)).take 4 = putL l.length 4 := by
    rw [List.take_append_of_le_length (by rw [putL_length]; exact Nat.le_refl _), List.take_of_length_le (by rw [putL_length]; exact Nat.le_refl _)]
  have hl : loadL (putL l.length 4) = l.length := loadL_putL 4 _ (by omega)
  have h1 : lenOk (putL l.length 4 ++ (l ++ r), 0) = true := by
    unfold lenOk
    rw [ht, hl]
    exact decide_eq_true (by omega)
  refine ⟨h1, ?_⟩
  unfold lenN
  rw [h1, fitsW_ok (by rw [putL_length]; rfl)]
  simp only [Bool.and_self, if_true, ht, hl]
theorem bytes_ok {l r : List UInt8} (h : l.length ≤ 65536) : bytesV (putL l.length 4 ++ (l ++ r), 0) = l ∧ bytesS (putL l.length 4 ++ (l ++ r), 0) = (r, 0) := by
  obtain ⟨h1, h2⟩ := len_ok (r := r) h
  have h3 : stepS (putL l.length 4 ++ (l ++ r), 0) 4 true = (l ++ r, 0) := stW_ok (by rw [putL_length]; rfl)
  unfold bytesV bytesS
  rw [h1, h2, h3, fitsW_ok rfl, stW_ok rfl]
  simp
theorem bytes_bad {s : List UInt8 × Int} (h : s.2 ≠ 0) : bytesV s = [] ∧ bytesS s = s := by
  unfold bytesV bytesS
  rw [stW_bad h, fitsW_bad h, stW_bad h]
  exact ⟨rfl, rfl⟩
theorem bytes_short {l p : List UInt8} (h : l.length ≤ 65536) {m : Nat} (hm : m < 4 + l.length) (hp : p = (putL l.length 4 ++ l).take m) : bytesS (p, 0) = ([], 40) := by
  subst hp
  have hpl := putL_length l.length 4
  by_cases h4 : m < 4
  · have hs : stepS ((putL l.length 4 ++ l).take m, 0) 4 (lenOk ((putL l.length 4 ++ l).take m, 0)) = ([], 40) := stW_short (by simp; omega)
    unfold bytesS
    rw [hs]
    exact stW_bad (by simp)
  · have he : (putL l.length 4 ++ l).take m = putL l.length 4 ++ (l.take (m - 4)) := by
      rw [List.take_append, hpl, List.take_of_length_le (by omega)]
    rw [he]
    have ht : (putL l.length 4 ++ l.take (m - 4)).take 4 = putL l.length 4 := by
      rw [List.take_append_of_le_length (by omega), List.take_of_length_le (by omega)]
    have hl : loadL (putL l.length 4) = l.length := loadL_putL 4 _ (by omega)
    have h1 : lenOk (putL l.length 4 ++ l.take (m - 4), 0) = true := by
      unfold lenOk
      rw [ht, hl]
      exact decide_eq_true (by omega)
    have h2 : lenN (putL l.length 4 ++ l.take (m - 4), 0) = l.length := by
      unfold lenN
      rw [h1, fitsW_ok (by rw [putL_length]; rfl)]
      simp only [Bool.and_self, if_true, ht, hl]
    have h3 : stepS (putL l.length 4 ++ l.take (m - 4), 0) 4 true = (l.take (m - 4), 0) := stW_ok (by rw [putL_length]; rfl)
    unfold bytesS
    rw [h1, h2, h3]
    exact stW_short (by simp; omega)
theorem tagV_ok {l r : List UInt8} (h : l.length = 32) : tagV (l ++ r, 0) = l := by
  unfold tagV
  rw [fitsW_ok (by omega)]
  simp [← h]
/-- A field that was written is read. -/
theorem read_back {f : FD} {r : List UInt8} (hT : f.T.length = 32) (hB : f.B.length ≤ 65536) (hn : I64 f.n) : backV (pieceL f ++ r, 0) f = true ∧ rdS (pieceL f ++ r, 0) f = (r, 0) := by
  unfold pieceL pieces backV rdS
  by_cases h0 : f.kind = 0
  · simp only [if_pos h0, List.flatten_cons, List.flatten_nil, List.append_nil]
    rw [fitsW_ok (l := [byteOf f.n]) (n := 1) rfl, stW_ok (l := [byteOf f.n]) (n := 1) rfl]
    simp
  by_cases h1 : f.kind = 1
  · simp only [if_neg h0, if_pos h1, List.flatten_cons, List.flatten_nil, List.append_nil]
    rw [fitsW_ok (l := putL (u64N f.n) 8) (n := 8) (by rw [putL_length]; rfl), stW_ok (l := putL (u64N f.n) 8) (n := 8) (by rw [putL_length]; rfl)]
    rw [List.take_append_of_le_length (by rw [putL_length]; exact Nat.le_refl _), List.take_of_length_le (by rw [putL_length]; exact Nat.le_refl _), i64_back hn]
    simp
  by_cases h2 : f.kind = 2
  · simp only [if_neg h0, if_neg h1, if_pos h2, List.flatten_cons, List.flatten_nil, List.append_nil]
    rw [fitsW_ok (l := [if flagOf f.n then 1 else 0]) (n := 1) rfl, show flOk ([if flagOf f.n then 1 else 0] ++ r, 0) = true by unfold flOk; cases flagOf f.n <;> rfl, stW_ok (l := [if flagOf f.n then 1 else 0]) (n := 1) rfl]
    cases flagOf f.n <;> exact ⟨rfl, rfl⟩
  have hb := bytes_ok (r := r) hB
  by_cases h3 : f.kind = 3
  · simp only [if_neg h0, if_neg h1, if_neg h2, if_pos h3, List.flatten_cons, List.flatten_nil, List.append_nil, List.append_assoc]
    rw [hb.1, hb.2]
    simp
  by_cases h4 : f.kind = 4
  · simp only [if_neg h0, if_neg h1, if_neg h2, if_neg h3, if_pos h4, List.flatten_cons, List.flatten_nil, List.append_nil, List.append_assoc]
    rw [hb.1, hb.2]
    simp
  by_cases h5 : f.kind = 5
  · simp only [if_neg h0, if_neg h1, if_neg h2, if_neg h3, if_neg h4, if_pos h5, List.flatten_cons, List.flatten_nil, List.append_nil]
    rw [tagV_ok hT, stW_ok (l := f.T) (n := 32) (by omega)]
    simp
  · simp [if_neg h0, if_neg h1, if_neg h2, if_neg h3, if_neg h4, if_neg h5]
/-- A field that was cut off is none. -/
theorem read_cut {f : FD} {m : Nat} (hT : f.T.length = 32) (hB : f.B.length ≤ 65536) (hm : m < (pieceL f).length) : rdS ((pieceL f).take m, 0) f = ([], 40) := by
  unfold pieceL pieces at hm ⊢
  unfold rdS
  by_cases h0 : f.kind = 0
  · simp only [if_pos h0, List.flatten_cons, List.flatten_nil, List.append_nil] at hm ⊢
    exact stW_short (by rw [List.length_take]; simp at hm ⊢; omega)
  by_cases h1 : f.kind = 1
  · simp only [if_neg h0, if_pos h1, List.flatten_cons, List.flatten_nil, List.append_nil, putL_length] at hm ⊢
    exact stW_short (by rw [List.length_take, putL_length]; omega)
  by_cases h2 : f.kind = 2
  · simp only [if_neg h0, if_neg h1, if_pos h2, List.flatten_cons, List.flatten_nil, List.append_nil] at hm ⊢
    exact stW_short (by rw [List.length_take]; simp at hm ⊢; omega)
  by_cases h3 : f.kind = 3
  · simp only [if_neg h0, if_neg h1, if_neg h2, if_pos h3, List.flatten_cons, List.flatten_nil, List.append_nil, List.length_append, putL_length] at hm ⊢
    exact bytes_short hB hm rfl
  by_cases h4 : f.kind = 4
  · simp only [if_neg h0, if_neg h1, if_neg h2, if_neg h3, if_pos h4, List.flatten_cons, List.flatten_nil, List.append_nil, List.length_append, putL_length] at hm ⊢
    exact bytes_short hB hm rfl
  by_cases h5 : f.kind = 5
  · simp only [if_neg h0, if_neg h1, if_neg h2, if_neg h3, if_neg h4, if_pos h5, List.flatten_cons, List.flatten_nil, List.append_nil] at hm ⊢
    exact stW_short (by rw [List.length_take]; omega)
  · simp [if_neg h0, if_neg h1, if_neg h2, if_neg h3, if_neg h4, if_neg h5] at hm
/-- A bad reader stays so. -/
theorem read_bad {s : List UInt8 × Int} (f : FD) (h : s.2 ≠ 0) : rdS s f = s := by
  unfold rdS
  rw [stW_bad h, stW_bad h, stW_bad h, (bytes_bad h).2, stW_bad h]
  simp
/-- A reader behind fields that were cut off. -/
def CutSt (l : List FD) (s : List UInt8 × Int) : Prop := s = ([], 40) ∨ ∃ m, m < (formL l).length ∧ s = ((formL l).take m, 0)
theorem CutSt.next {f : FD} {l : List FD} {s : List UInt8 × Int} (hT : f.T.length = 32) (hB : f.B.length ≤ 65536) (hn : I64 f.n) (h : CutSt (f :: l) s) : CutSt l (rdS s f) := by
  rcases h with rfl | ⟨m, hm, rfl⟩
  · exact .inl (read_bad f (by simp))
  · have he : formL (f :: l) = pieceL f ++ formL l := by simp [formL]
    rw [he] at hm ⊢
    by_cases hk : m < (pieceL f).length
    · left
      rw [List.take_append_of_le_length (by omega)]
      exact read_cut hT hB hk
    · right
      rw [List.length_append] at hm
      refine ⟨m - (pieceL f).length, by omega, ?_⟩
      rw [List.take_append, List.take_of_length_le (by omega)]
      exact (read_back hT hB hn).2
theorem RPly.back {w0 w : World} {g : Nat} {s : List UInt8 × Int} (h : RPly w0 w g s) (f : FD) (A : Option Addr) (c : Nat) (hf : FOk w0 f A c) :
    Calls Try.prog 34 #[.pointer (some ⟨g, 0, none⟩), .agg (fcells f (.slice A f.B.length c)).toArray] w (fun en w' => en = .returned (.bool (backV s f)) ∧ RPly w0 w' g (rdS s f)) := by
  obtain ⟨S, h1, h2, h3⟩ := h
  refine (back_any w g S s h1 f A c (hf.ext h3) fun v hv => hf.bs.ext (hv.ext h3 fun j hj => by have hj : j = g := hj; subst hj; exact h2 j h1.in_)).mono ?_
  rintro en w' ⟨q1, q2, q3⟩
  exact ⟨q1, RPly.put h1 h2 h3 q2 q3⟩
theorem addAll_ok : ∀ (ps : List (List UInt8)) (z : List UInt8), z.length + ps.flatten.length ≤ 65536 → addAll (false, z) ps = (false, z ++ ps.flatten)
  | [], z, _ => by simp [addAll]
  | p :: ps, z, h => by
    simp only [List.flatten_cons, List.length_append] at h
    have h1 : addStep (false, z) p = (false, z ++ p) := by
      unfold addStep
      rw [if_neg]
      simp only [Bool.false_or, decide_eq_true_eq]
      omega
    have h2 := addAll_ok ps (z ++ p) (by rw [List.length_append]; omega)
    simp only [addAll, List.foldl_cons] at h2 ⊢
    rw [h1, h2]
    simp
end Go.Proofs.Ythhphmbhlddihaa
