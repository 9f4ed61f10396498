/- Disks: their types; a disk that was made; what its blocks are. -/
import Derived.Test.YtkidofecahaajaaDskP
import Derived.Test.YtkidofecahaajaaBvs
import Derived.Test.YtkidofecahaajaaSha3
import Derived.Test.YtkidofecahaajaaOrd3
import Derived.Test.YtkidofecahaajaaCut
namespace Go.Proofs.Ytkidofecahaajaa
open Go Go.RowKit
set_option linter.unusedVariables false
theorem und_pD : Try.prog.underlying 27 = some (.pointer 30) := Try.underlying27
theorem fldo_D0 : FldO Try.prog 30 0 0 := ⟨fun w a => by kernel_rfl⟩
theorem fldo_D1 : FldO Try.prog 30 1 1 := ⟨fun w a => by kernel_rfl⟩
theorem fldo_D2 : FldO Try.prog 30 2 2 := ⟨fun w a => by kernel_rfl⟩
theorem fldo_D3 : FldO Try.prog 30 3 3 := ⟨fun w a => by kernel_rfl⟩
theorem d_ptr : OneT Try.prog 27 := ⟨.pointer none, 8, by kernel_rfl, rfl, by kernel_rfl⟩
/-- The blocks that a disk turns. -/
def dRow (g : Nat) (W : Option Addr) (k : Nat) : Prop := k = g ∨ ∃ ad, W = some ad ∧ ad.block = k
def dFar (S : Nat → Prop) (g : Nat) (W A : Option Addr) (l : List UInt8) : Prop := ∀ ad, A = some ad → l ≠ [] → S ad.block ∧ ¬ dRow g W ad.block
/-- A disk that was made, at block g; its blocks lie in S. -/
structure DR (w : World) (g : Nat) (S : Nat → Prop) (d : DS) : Prop where
  in_ : S g
  at_ : ∃ (A : Option Addr) (c : Nat) (W : Option Addr) (cW : Nat) (vs : List BV), Blk w g 30 #[.bool true, .bool d.up, .slice A d.s.length c, .slice W vs.length cW] ∧ (Bs w A d.s ∧ d.s.length ≤ c ∧ dFar S g W A d.s) ∧
    (w.ownsRow 0 22 1 (.slice W vs.length cW) vs.length (vs.map sv) ∧ ∀ ad, W = some ad → S ad.block ∧ ad.block ≠ g) ∧ vs.map pay = d.ws ∧ ∀ v ∈ vs, Bs w v.1 v.2.2 ∧ v.2.2.length ≤ v.2.1 ∧ dFar S g W v.1 v.2.2
  bd : ∀ k, S k → k < w.heap.size
theorem Bs.far {w w' : World} {S X : Nat → Prop} {g : Nat} {W A : Option Addr} {l : List UInt8} (h : Bs w A l) (hf : dFar S g W A l) (hk : Keeps w w' X) (hn : ∀ k, S k → ¬ dRow g W k → ¬ X k) : Bs w' A l := by
  by_cases hl : l = []
  · subst hl; exact Bs.nil _ _
  · exact h.keeps hk (fun ad ha => hn _ (hf ad ha hl).1 (hf ad ha hl).2)
theorem DR.keeps {w w' : World} {g : Nat} {S X : Nat → Prop} {d : DS} (h : DR w g S d) (hk : Keeps w w' X) (hn : ∀ k, S k → ¬ X k) : DR w' g S d := by
  obtain ⟨A, c, W, cW, vs, h1, ⟨h2, h3, h4⟩, ⟨h5, h6⟩, h7, h8⟩ := h.at_
  exact ⟨h.in_, ⟨A, c, W, cW, vs, h1.keeps hk (hn g h.in_), ⟨h2.far h4 hk (fun k hs _ => hn k hs), h3, h4⟩, ⟨own_keeps h5 hk (fun ad ha => hn _ (h6 ad ha).1), h6⟩, h7, fun v hv => ⟨(h8 v hv).1.far (h8 v hv).2.2 hk (fun k hs _ => hn k hs), (h8 v hv).2⟩⟩, fun k hk2 => Nat.lt_of_lt_of_le (h.bd k hk2) hk.size⟩
theorem DR.ext {w w' : World} {g : Nat} {S : Nat → Prop} {d : DS} (h : DR w g S d) (hx : Ext w w') : DR w' g S d :=
  h.keeps (Keeps.of_ext hx (fun _ => False)) (fun _ _ h => h)
theorem dFar.mono {S S' : Nat → Prop} {g : Nat} {W A : Option Addr} {l : List UInt8} (h : dFar S g W A l) (hs : ∀ k, S k → S' k) : dFar S' g W A l := fun ad ha hl => ⟨hs _ (h ad ha hl).1, (h ad ha hl).2⟩
theorem DR.mono {w : World} {g : Nat} {S S' : Nat → Prop} {d : DS} (h : DR w g S d) (hs : ∀ k, S k → S' k) (hb : ∀ k, S' k → k < w.heap.size) : DR w g S' d := by
  obtain ⟨A, c, W, cW, vs, h1, ⟨h2, h3, h4⟩, ⟨h5, h6⟩, h7, h8⟩ := h.at_
  exact ⟨hs g h.in_, ⟨A, c, W, cW, vs, h1, ⟨h2, h3, h4.mono hs⟩, ⟨h5, fun ad ha => ⟨hs _ (h6 ad ha).1, (h6 ad ha).2⟩⟩, h7, fun v hv => ⟨(h8 v hv).1, (h8 v hv).2.1, (h8 v hv).2.2.mono hs⟩⟩, hb⟩
/-- A disk that nobody made. -/
def NoD (w : World) (A : Option Addr) : Prop := A = none ∨ ∃ g cs, A = some ⟨g, 0, none⟩ ∧ Blk w g 30 cs ∧ cs[0]? = some (.bool false)
theorem NoD.ext {w w' : World} {A : Option Addr} (h : NoD w A) (hx : Ext w w') : NoD w' A := by
  rcases h with h | ⟨g, cs, h1, h2, h3⟩
  · exact .inl h
  · exact .inr ⟨g, cs, h1, h2.ext hx, h3⟩
/-- Bytes that are nobody else's, and may be written. -/
structure FreB (w : World) (base : Nat) (A : Option Addr) (l : List UInt8) : Prop where
  bs : Bs w A l
  at_ : ∀ ad, A = some ad → l ≠ [] → ∃ g, ad = ⟨g, 0, none⟩ ∧ base ≤ g ∧ g < w.heap.size
  frz : ∀ ad, A = some ad → ∀ i, i < l.length → w.frozen? (ad.add i) = false
theorem FreB.own {w : World} {base : Nat} {T : TypeId} {A : Option Addr} {c : Nat} {l : List UInt8} (h : w.ownsRow base T 1 (.slice A l.length c) l.length (l.map bv)) : FreB w base A l := by
  refine ⟨own_rd h, fun ad ha _ => ?_, fun ad ha i _ => ?_⟩
  · have h1 := own_block h ad ha
    rcases own_at h with h2 | ⟨g, cur, h2, h3⟩
    · rw [h2] at ha; cases ha
    · rw [h2] at ha; cases ha; exact ⟨g, rfl, h1⟩
  · rcases own_at h with h2 | ⟨g, cur, h2, h3⟩
    · rw [h2] at ha; cases ha
    · rw [h2] at ha; cases ha
      rw [add0]
      exact Blk.frozen (t := T) h3 i
end Go.Proofs.Ytkidofecahaajaa
