/- Lists put together, of a literal list of lists. -/
import Derived.Test.YtdpcahfgdpikfaaWords5
namespace Go.Proofs.Ytdpcahfgdpikfaa
open Go Go.RowKit
set_option linter.unusedVariables false
theorem cat_lit (w : World) (g n c : Nat) {T : TypeId} (vs : List BV) (hb : Blk w g T (vs.map sv).toArray) (h : ∀ x ∈ vs, Bs w x.1 x.2.2) (hn : vs.length = n) (hm : n ≤ 1000) (hl : (flat vs).length ≤ 1000000) :
    Calls Try.prog 20 #[.slice (some ⟨g, 0, none⟩) n c] w (RetBs 5 w (flat vs)) := by
  subst hn
  exact cat_any w _ _ vs (by simpa using hb.rd) h (by omega) hl
theorem cat_lit1 {w : World} {g c : Nat} {T : TypeId} {A : Option Addr} {cA n : Nat} {a : List UInt8} (hb : Blk w g T #[.slice A n cA]) (ha : Bs w A a) (hn : a.length = n) (hl : a.length ≤ 1000000) :
    Calls Try.prog 20 #[.slice (some ⟨g, 0, none⟩) 1 c] w (RetBs 5 w a) := by
  subst hn
  have := cat_lit w g 1 c [(A, cA, a)] hb (by simpa using ha) rfl (by decide) (by simpa [flat] using hl)
  simpa [flat] using this
theorem cat_lit2 {w : World} {g c : Nat} {T : TypeId} {A B : Option Addr} {cA cB n m : Nat} {a b : List UInt8} (hb : Blk w g T #[.slice A n cA, .slice B m cB]) (ha : Bs w A a) (hn : a.length = n) (hB : Bs w B b) (hm : b.length = m) (hl : a.length + b.length ≤ 1000000) :
    Calls Try.prog 20 #[.slice (some ⟨g, 0, none⟩) 2 c] w (RetBs 5 w (a ++ b)) := by
  subst hn; subst hm
  have := cat_lit w g 2 c [(A, cA, a), (B, cB, b)] hb (by simp; exact ⟨ha, hB⟩) rfl (by decide) (by simpa [flat] using hl)
  simpa [flat] using this
theorem cat_lit3 {w : World} {g c : Nat} {T : TypeId} {A B D : Option Addr} {cA cB cD n m k : Nat} {a b d : List UInt8} (hb : Blk w g T #[.slice A n cA, .slice B m cB, .slice D k cD]) (ha : Bs w A a) (hn : a.length = n) (hB : Bs w B b) (hm : b.length = m) (hD : Bs w D d) (hk : d.length = k) (hl : a.length + (b.length + d.length) ≤ 1000000) :
    Calls Try.prog 20 #[.slice (some ⟨g, 0, none⟩) 3 c] w (RetBs 5 w (a ++ (b ++ d))) := by
  subst hn; subst hm; subst hk
  have := cat_lit w g 3 c [(A, cA, a), (B, cB, b), (D, cD, d)] hb (by simp; exact ⟨ha, hB, hD⟩) rfl (by decide) (by simpa [flat] using hl)
  simpa [flat] using this
theorem cat_lit4 {w : World} {g c : Nat} {T : TypeId} {A B D E : Option Addr} {cA cB cD cE n m k j : Nat} {a b d f : List UInt8} (hb : Blk w g T #[.slice A n cA, .slice B m cB, .slice D k cD, .slice E j cE]) (ha : Bs w A a) (hn : a.length = n) (hB : Bs w B b) (hm : b.length = m) (hD : Bs w D d) (hk : d.length = k) (hE : Bs w E f) (hj : f.length = j) (hl : a.length + (b.length + (d.length + f.length)) ≤ 1000000) :
    Calls Try.prog 20 #[.slice (some ⟨g, 0, none⟩) 4 c] w (RetBs 5 w (a ++ (b ++ (d ++ f)))) := by
  subst hn; subst hm; subst hk; subst hj
  have := cat_lit w g 4 c [(A, cA, a), (B, cB, b), (D, cD, d), (E, cE, f)] hb (by simp; exact ⟨ha, hB, hD, hE⟩) rfl (by decide) (by simpa [flat] using hl)
  simpa [flat] using this
end Go.Proofs.Ytdpcahfgdpikfaa
