/- Walk: the chapter's examples. -/
import Derived.Test.YtdpcahfgdpikfaaSha5
import Derived.Test.YtdpcahfgdpikfaaShaC
namespace Go.Proofs.Ytdpcahfgdpikfaa
open Go Go.RowKit
set_option linter.unusedVariables false
section
variable {P : Program} {ops : Array Oper} {Q : Exit → (Nat → Value) → World → Prop} {rest : List Oper} {e : Nat → Value} {w : World} {d : Tmp} {ty : TypeId} {pos : String} {aft : Array Edge}
theorem OW_shrZ {x y : Operand} {t t' : TypeId} {a : UInt32} {ky : IntKind} {b : Int} (hx : ev e x = uv a) (hy : ev e y = .int ky b) (hk : 0 ≤ b ∧ b ≤ 32) (h : OW P ops Q rest (upd e d (uv (shU a b.toNat))) w) : OW P ops Q (⟨some d, .binOp .shr t x y t', ty, pos, aft, none⟩ :: rest) e w :=
  OW_shrW b.toNat hx hy (by omega) (by omega) h
theorem OW_eqlT {x y : Operand} {t t' : TypeId} {k : IntKind} {a b : Int} (hx : ev e x = .int k a) (hy : ev e y = .int k b) (hh : a = b) (h : OW P ops Q rest (upd e d (.bool true)) w) : OW P ops Q (⟨some d, .binOp .eql t x y t', ty, pos, aft, none⟩ :: rest) e w :=
  OW_eql hx hy (by rw [hh, beq_self_eq_true]; exact h)
/-- Bytes of a constant, converted: the block is marked behind its end. -/
theorem OW_convB {x : Operand} {t el : TypeId} {g n c : Nat} {cs : Array Value} (ht : P.underlying t = some (.slice el)) (he : P.underlying el = some (.int .u8)) (hx : ev e x = .slice (some ⟨g, 0, none⟩) n c) (hb : Blk w g el cs)
    (h : ∀ w', Rd w' (some ⟨g, 0, none⟩) cs.toList → w.grownBy w' (some g) → OW P ops Q rest (upd e d (.slice (some ⟨g, 0, none⟩) n c)) w') : OW P ops Q (⟨some d, .convert t t x, ty, pos, aft, none⟩ :: rest) e w := by
  have hb' : w.heap[g]? = some (.cells cs el (0, 0)) := hb
  have hsh : w.shape? g = some (el, cs.size) := by unfold World.shape?; rw [hb']
  refine OW_valw (.slice (some ⟨g, 0, none⟩) n c) (w.freeze ⟨g, cs.size, none⟩ 1) rfl ?_ (h _ ?_ ?_)
  · simp only [execOp, hx, Sem.run_bind]
    simp [convert, run_underlying ht, run_underlying he, markStringish, hsh]
  · intro j u hu
    refine ⟨_, rfl, ?_⟩
    rw [add0]
    have hm : (w.freeze ⟨g, cs.size, none⟩ 1).heap[g]? = some (.cells cs el (cs.size, cs.size + 1)) := by
      simp [World.freeze, Array.getElem?_modify, hb']
    rw [cell_of_row _ _ _ _ _ _ hm]
    simpa using hu
  · refine ⟨rfl, rfl, rfl, by simp [World.freeze], fun k hk hne => ?_⟩
    have : g ≠ k := fun h => hne (by rw [h])
    simp [World.freeze, Array.getElem?_modify, this]
end
theorem nat_u32_ofNat {x : UInt32} {n : Nat} (h : x.toNat = n) : uv x = .int .u32 (n : Int) := by unfold uv; rw [h]
/-- One word of a tag, from the computation. -/
theorem fst_of {l : List UInt8} {a b c d e f g h : Nat} (hs : shaF l (fun a b c d e f g h => [a, b, c, d, e, f, g, h]) = [a, b, c, d, e, f, g, h]) : (shaN l).a.toNat = a ∧ (shaN l).h.toNat = h := by
  rw [shaF_eq] at hs
  simp only [give, List.cons.injEq] at hs
  exact ⟨hs.1, hs.2.2.2.2.2.2.2.1⟩
theorem last_of {l : List UInt8} {n : Nat} (h : (shaN l).h.toNat = n) : ((shaL l).map bv).toArray[31]? = some (.int .u8 ((UInt8.ofNat n).toNat : Int)) := by
  have h1 : ((shaL l).map bv).toArray[31]? = some (.int .u8 ((UInt8.ofNat ((shaN l).h.toNat / 256 ^ 0)).toNat : Int)) := rfl
  rw [h1, h, Nat.pow_zero, Nat.div_one]
def abcd : List UInt8 := [97, 98, 99, 100, 98, 99, 100, 101, 99, 100, 101, 102, 100, 101, 102, 103, 101, 102, 103, 104, 102, 103, 104, 105, 103, 104, 105, 106, 104, 105, 106, 107, 105, 106, 107, 108, 106, 107, 108, 109, 107, 108, 109, 110, 108, 109, 110, 111, 109, 110, 111, 112, 110, 111, 112, 113]
theorem bs_conv {w : World} {g : Nat} {l : List UInt8} (h : Rd w (some ⟨g, 0, none⟩) (l.map bv).toArray.toList) : Bs w (some ⟨g, 0, none⟩) l := h
end Go.Proofs.Ytdpcahfgdpikfaa
