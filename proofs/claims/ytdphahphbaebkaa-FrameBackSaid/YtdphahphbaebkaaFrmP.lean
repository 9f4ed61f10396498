/- Frames, plainly. No program in sight. -/
import Derived.Test.YtdphahphbaebkaaShaP
namespace Go.Proofs.Ytdphahphbaebkaa
open Go Go.RowKit
set_option linter.unusedVariables false
def sealB (b : List UInt8) : List UInt8 := b ++ (shaL b).take 8
theorem sealB_length (b : List UInt8) : (sealB b).length = b.length + 8 := by unfold sealB; rw [List.length_append, List.length_take, shaL_length]; rfl
def frameB (p : List UInt8) : List UInt8 := sealB (putL p.length 4 ++ p)
theorem frameB_length (p : List UInt8) : (frameB p).length = p.length + 12 := by unfold frameB; rw [sealB_length, List.length_append, putL_length]; omega
theorem loadL_putL (n : Nat) : ∀ x, x < 256 ^ n → loadL (putL x n) = x := by
  induction n with
  | zero => intro x hx; simp at hx; subst hx; rfl
  | succ n ih =>
    intro x hx
    have h1 : putL x (n + 1) = putL (x / 256) n ++ [UInt8.ofNat x] := by
      unfold putL
      rw [List.range_succ, List.map_append]
      congr 1
      · apply List.map_congr_left
        intro i hi
        have hi' : i < n := List.mem_range.1 hi
        rw [show n + 1 - 1 - i = (n - 1 - i) + 1 by omega, Nat.pow_succ, Nat.mul_comm, ← Nat.div_div_eq_div_mul]
      · simp
    rw [h1, loadL_snoc, ih _ (by rw [Nat.pow_succ] at hx; omega), UInt8.toNat_ofNat']
    omega
theorem putL_snoc (x n : Nat) : putL x (n + 1) = putL (x / 256) n ++ [UInt8.ofNat x] := by
  unfold putL
  rw [List.range_succ, List.map_append]
  congr 1
  · apply List.map_congr_left
    intro i hi
    have hi' : i < n := List.mem_range.1 hi
    rw [show n + 1 - 1 - i = (n - 1 - i) + 1 by omega, Nat.pow_succ, Nat.mul_comm, ← Nat.div_div_eq_div_mul]
  · simp
theorem putL_loadL : ∀ (n : Nat) (l : List UInt8), l.length = n → putL (loadL l) n = l
  | 0, l, h => by rw [List.eq_nil_of_length_eq_zero h]; rfl
  | n + 1, l, h => by
    obtain ⟨l', b, rfl⟩ : ∃ l' b, l = l' ++ [b] := ⟨l.dropLast, l.getLast (by intro hh; rw [hh] at h; cases h), (List.dropLast_concat_getLast _).symm⟩
    have hb := b.toNat_lt
    rw [putL_snoc, loadL_snoc, show (256 * loadL l' + b.toNat) / 256 = loadL l' by omega, putL_loadL n l' (by simpa using h)]
    congr 2
    apply UInt8.toNat_inj.1
    rw [UInt8.toNat_ofNat']
    omega
/-- The payload of the frame at the beginning. -/
def nextL (b : List UInt8) : Option (List UInt8) :=
  if 4 ≤ b.length ∧ loadL (b.take 4) ≤ 65536 ∧ loadL (b.take 4) + 12 ≤ b.length ∧ sealB (b.take (4 + loadL (b.take 4))) = b.take (loadL (b.take 4) + 12) then some ((b.drop 4).take (loadL (b.take 4))) else none
theorem nextL_some {b p : List UInt8} (h : nextL b = some p) : p.length ≤ 65536 ∧ p.length + 12 ≤ b.length ∧ b.take (p.length + 12) = frameB p := by
  unfold nextL at h
  split at h
  · rename_i hh
    obtain ⟨h1, h2, h3, h4⟩ := hh
    obtain ⟨n, hn⟩ : ∃ n, loadL (b.take 4) = n := ⟨_, rfl⟩
    rw [hn] at h h2 h3 h4
    have hp := Option.some.inj h
    have hpl : p.length = n := by rw [← hp, List.length_take, List.length_drop]; omega
    rw [hpl]
    refine ⟨h2, h3, ?_⟩
    rw [← h4]
    unfold frameB
    rw [hpl, ← hp, ← hn, putL_loadL 4 (b.take 4) (by rw [List.length_take]; omega)]
    congr 1
    rw [List.take_add]
  · cases h
theorem nextL_frame (p x : List UInt8) (h : p.length ≤ 65536) : nextL (frameB p ++ x) = some p := by
  have h4 : (frameB p ++ x).take 4 = putL p.length 4 := by
    unfold frameB sealB
    rw [List.append_assoc, List.append_assoc, List.take_append_of_le_length (by rw [putL_length]; exact Nat.le_refl _), List.take_of_length_le (by rw [putL_length]; exact Nat.le_refl _)]
  have hn : loadL ((frameB p ++ x).take 4) = p.length := by rw [h4]; exact loadL_putL 4 _ (by omega)
  have hl := frameB_length p
  have ht : (frameB p ++ x).take (4 + p.length) = putL p.length 4 ++ p := by
    unfold frameB sealB
    rw [List.append_assoc, List.take_append_of_le_length (by rw [List.length_append, putL_length]; exact Nat.le_refl _), List.take_of_length_le (by rw [List.length_append, putL_length]; exact Nat.le_refl _)]
  have ht2 : (frameB p ++ x).take (p.length + 12) = frameB p := by
    rw [List.take_append_of_le_length (by omega), List.take_of_length_le (by omega)]
  unfold nextL
  rw [hn, ht, ht2, if_pos ⟨by rw [List.length_append]; omega, h, by rw [List.length_append]; omega, rfl⟩]
  congr 1
  have : ((frameB p ++ x).take (4 + p.length)).drop 4 = p := by rw [ht, List.drop_append_of_le_length (by rw [putL_length]; exact Nat.le_refl _), List.drop_of_length_le (by rw [putL_length]; exact Nat.le_refl _)]; rfl
  rw [List.drop_take, show 4 + p.length - 4 = p.length by omega] at this
  exact this
theorem head_of {b x y : List UInt8} (h1 : (x ++ y).length ≤ b.length) (h2 : b.take (x ++ y).length = x ++ y) : b = x ++ b.drop x.length := by
  have h5 := congrArg (List.take x.length) h2
  rw [List.take_take, Nat.min_eq_left (by rw [List.length_append]; omega), List.take_append_of_le_length (Nat.le_refl _), List.take_of_length_le (Nat.le_refl _)] at h5
  have := List.take_append_drop x.length b
  rw [h5] at this
  exact this.symm
/-- All frames of some payloads. -/
def framesB (ps : List (List UInt8)) : List UInt8 := (ps.map frameB).flatten
theorem framesB_snoc (ps : List (List UInt8)) (p : List UInt8) : framesB (ps ++ [p]) = framesB ps ++ frameB p := by simp [framesB]
theorem framesB_cons (ps : List (List UInt8)) (p : List UInt8) : framesB (p :: ps) = frameB p ++ framesB ps := by simp [framesB]
theorem framesB_append (ps qs : List (List UInt8)) : framesB (ps ++ qs) = framesB ps ++ framesB qs := by simp [framesB]
/-- The frames at the beginning are those of ps; used bytes. -/
def IsAll (b : List UInt8) (ps : List (List UInt8)) : Prop := (framesB ps).length ≤ b.length ∧ b.take (framesB ps).length = framesB ps ∧ nextL (b.drop (framesB ps).length) = none ∧ ∀ p ∈ ps, p.length ≤ 65536
theorem isAll_uniq : ∀ {ps qs : List (List UInt8)} {b : List UInt8}, IsAll b ps → IsAll b qs → ps = qs
  | [], [], _, _, _ => rfl
  | [], q :: qs, b, hp, hq => by
    obtain ⟨h1, h2, h3, h4⟩ := hq
    rw [framesB_cons] at h1 h2
    have := head_of h1 h2
    have hn : nextL b = none := hp.2.2.1
    rw [this, nextL_frame q _ (h4 q List.mem_cons_self)] at hn
    cases hn
  | p :: ps, [], b, hp, hq => by
    obtain ⟨h1, h2, h3, h4⟩ := hp
    rw [framesB_cons] at h1 h2
    have := head_of h1 h2
    have hn : nextL b = none := hq.2.2.1
    rw [this, nextL_frame p _ (h4 p List.mem_cons_self)] at hn
    cases hn
  | p :: ps, q :: qs, b, hp, hq => by
    have key : ∀ {p ps b}, IsAll b (p :: ps) → b = frameB p ++ b.drop (frameB p).length ∧ IsAll (b.drop (frameB p).length) ps := by
      intro p ps b hp
      obtain ⟨h1, h2, h3, h4⟩ := hp
      rw [framesB_cons] at h1 h2 h3
      have h5 := head_of h1 h2
      refine ⟨h5, ?_, ?_, ?_, fun x hx => h4 x (List.mem_cons_of_mem _ hx)⟩
      · rw [List.length_append] at h1; rw [List.length_drop]; omega
      · have := congrArg (List.drop (frameB p).length) h2
        rw [List.drop_take, List.length_append, List.drop_append_of_le_length (Nat.le_refl _), List.drop_of_length_le (Nat.le_refl _), List.nil_append] at this
        rwa [Nat.add_sub_cancel_left] at this
      · rw [List.length_append] at h3
        rw [List.drop_drop]; exact h3
    obtain ⟨e1, i1⟩ := key hp
    obtain ⟨e2, i2⟩ := key hq
    have h1 : nextL b = some p := by rw [e1]; exact nextL_frame p _ (hp.2.2.2 p List.mem_cons_self)
    have h2 : nextL b = some q := by rw [e2]; exact nextL_frame q _ (hq.2.2.2 q List.mem_cons_self)
    have hpq : p = q := Option.some.inj (h1.symm.trans h2)
    subst hpq
    rw [isAll_uniq i1 i2]
theorem drop_nextL {b : List UInt8} {ps : List (List UInt8)} {p : List UInt8} (h1 : (framesB ps).length ≤ b.length) (h2 : b.take (framesB ps).length = framesB ps) (h : nextL (b.drop (framesB ps).length) = some p) :
    (framesB (ps ++ [p])).length ≤ b.length ∧ b.take (framesB (ps ++ [p])).length = framesB (ps ++ [p]) ∧ p.length ≤ 65536 := by
  obtain ⟨h3, h4, h5⟩ := nextL_some h
  rw [framesB_snoc, List.length_append, frameB_length]
  rw [List.length_drop] at h4
  refine ⟨by omega, ?_, h3⟩
  rw [List.take_add, h2, h5]
end Go.Proofs.Ytdphahphbaebkaa
