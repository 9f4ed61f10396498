/- Literal slices whose elements have many cells. No program in sight. -/
import Derived.Test.YthhphmbhlddihaaKd
namespace Go.Proofs.Ythhphmbhlddihaa
open Go Go.RowKit
set_option linter.unusedVariables false
def partsM : List (List Value) → Nat → List (Nat × Value)
  | [], _ => []
  | cs :: l, k => (k, .agg cs.toArray) :: partsM l (k + 1)
theorem foldl_set (o : Nat) : ∀ (l : List Value) (j : Nat) (arr : Array Value), o + j + l.length ≤ arr.size →
    (l.zipIdx j).foldl (fun cs (x : Value × Nat) => cs.setIfInBounds (o + x.2) x.1) arr = (arr.toList.take (o + j) ++ l ++ arr.toList.drop (o + j + l.length)).toArray
  | [], j, arr, h => by simp
  | v :: l, j, arr, h => by
    simp only [List.length_cons] at h
    rw [List.zipIdx_cons, List.foldl_cons, foldl_set o l (j + 1) _ (by simp; omega)]
    apply Array.ext'
    simp only [Array.toList_setIfInBounds, List.length_cons]
    rw [show o + (j + 1) = o + j + 1 by omega, List.take_succ_eq_append_getElem (by simp; omega), List.getElem_set_self, List.take_set_of_le (Nat.le_refl _), List.drop_set_of_lt (by omega), show o + j + 1 + l.length = o + j + (l.length + 1) by omega]
    simp
theorem fill_partsM (m : Nat) : ∀ (vss : List (List Value)) (k : Nat) (cs : Array Value), (∀ v ∈ vss, v.length = m) → cs.size = (k + vss.length) * m → Instr.fill (fun i => some (i * m, m)) cs (partsM vss k) = some (cs.toList.take (k * m) ++ vss.flatten).toArray
  | [], k, cs, _, hs => by
    simp only [partsM, Instr.fill, List.flatten_nil, List.append_nil]
    rw [List.take_of_length_le (by simp at hs ⊢; omega)]
  | v :: vss, k, cs, h1, hs => by
    have hv := h1 v List.mem_cons_self
    simp only [List.length_cons] at hs
    have hkm : (k + 1) * m ≤ cs.size := by rw [hs]; exact Nat.mul_le_mul_right _ (by omega)
    rw [Nat.add_mul, Nat.one_mul] at hkm
    have hf := foldl_set (k * m) v 0 cs (by omega)
    unfold partsM Instr.fill
    have hc : ¬ ((decide ((Value.agg v.toArray).cells.size ≠ m) || decide (k * m + (Value.agg v.toArray).cells.size > cs.size)) = true) := by
      show ¬ ((decide (v.toArray.size ≠ m) || decide (k * m + v.toArray.size > cs.size)) = true)
      simp [hv]; omega
    have hz : (Value.agg v.toArray).cells.zipIdx.foldl (fun (cs : Array Value) (x : Value × Nat) => cs.setIfInBounds (k * m + x.2) x.1) cs = (cs.toList.take (k * m) ++ v ++ cs.toList.drop (k * m + v.length)).toArray := by
      rw [← Array.foldl_toList]
      show ((v.toArray.zipIdx).toList).foldl _ _ = _
      rw [Array.toList_zipIdx]
      exact hf
    have hl1 : (cs.toList.take (k * m) ++ v).length = (k + 1) * m := by simp only [List.length_append, List.length_take, Nat.add_mul, Nat.one_mul, Array.length_toList, hv]; omega
    have ih := fill_partsM m vss (k + 1) (cs.toList.take (k * m) ++ v ++ cs.toList.drop (k * m + v.length)).toArray (fun u hu => h1 u (List.mem_cons_of_mem _ hu)) (by
      rw [List.size_toArray, List.length_append, hl1, List.length_drop, Array.length_toList, hs, hv]
      have : (k + 1 + vss.length) * m = (k + (vss.length + 1)) * m := by congr 1; omega
      rw [this]
      have : k * m + m ≤ (k + (vss.length + 1)) * m := by rw [← hs]; omega
      rw [Nat.add_mul k 1 m]
      omega)
    have e : (cs.toList.take (k * m) ++ v ++ cs.toList.drop (k * m + v.length)).toArray.toList.take ((k + 1) * m) = cs.toList.take (k * m) ++ v := List.take_left' hl1
    rw [e, List.append_assoc (cs.toList.take (k * m)) v vss.flatten, ← List.flatten_cons] at ih
    simp only
    rw [if_neg hc]
    exact hz ▸ ih
section
variable {P : Program} {ops : Array Oper} {Q : Exit → (Nat → Value) → World → Prop} {rest : List Oper} {e : Nat → Value} {w : World} {d : Tmp} {ty : TypeId} {pos : String} {aft : Array Edge}
theorem OW_litM {t el : TypeId} {n : Nat} {parts : Array (Nat × Operand)} {m : Nat} {zs : List Value} (vss : List (List Value)) (ht : P.underlying t = some (.slice el)) (hel : AggT P el m zs)
    (hp : parts.toList.map (fun x => (x.1, ev e x.2)) = partsM vss 0) (hn : n = vss.length) (h1 : ∀ v ∈ vss, v.length = m) (hlt : n * m ≤ 10000)
    (h : ∀ w' g, Blk w' g el vss.flatten.toArray → w.heap.size ≤ g → g < w'.heap.size → Ext w w' → OW P ops Q rest (upd e d (.slice (some ⟨g, 0, none⟩) n n)) w') : OW P ops Q (⟨some d, .buildSlice t n parts, ty, pos, aft, none⟩ :: rest) e w := by
  refine OW_valw (.slice (some ⟨w.heap.size, 0, none⟩) n n) (w.alloc (.cells vss.flatten.toArray el)) rfl ?_ (h _ w.heap.size (Blk.new w el _) (Nat.le_refl _) (by simp) (Ext.alloc' w _))
  have hpp : (parts.map fun x => (x.1, ev e x.2)).toList = partsM vss 0 := by rw [Array.toList_map]; exact hp
  have hbig : ¬ (n * m > 2 ^ 24) := by omega
  have key : ∀ zs : Array Value, zs.size = n * m → Instr.fill (fun i => some (i * m, m)) zs (parts.map fun x => (x.1, ev e x.2)).toList = some vss.flatten.toArray := fun zs hz => by
    rw [hpp, fill_partsM m vss 0 zs h1 (by rw [hz, hn]; simp)]
    simp
  have hs : ∀ w, (sizeOf el).run P w = .ok m w := by
    obtain ⟨i, hi, hm⟩ := Option.map_eq_some_iff.1 hel.size
    intro w
    simp [sizeOf, typeInfo, hi, hm]
  have hzv : ∀ w, (zeroValue el).run P w = .ok (.agg zs.toArray) w := hel.zero
  have hrun : (Instr.buildSlice t n (parts.map fun x => (x.1, ev e x.2))).run P w = .ok (.slice (some ⟨w.heap.size, 0, none⟩) n n) (w.alloc (.cells vss.flatten.toArray el)) := by
    by_cases h0 : n * m = 0
    · simp only [Instr.buildSlice, Sem.run_bind, run_underlying ht, Result.andThen_ok, hs, Sem.run_pure, if_neg hbig, if_pos h0, key _ (show (Array.map (fun x => (#[] : Array Value)[x % (#[] : Array Value).size]!) (Array.range (n * m))).size = n * m by simp)]
      rfl
    · simp only [Instr.buildSlice, Sem.run_bind, run_underlying ht, Result.andThen_ok, hs, Sem.run_pure, if_neg hbig, if_neg h0, hzv, key _ (show (Array.map (fun x => (Value.agg zs.toArray).cells[x % (Value.agg zs.toArray).cells.size]!) (Array.range (n * m))).size = n * m by simp)]
      rfl
  simp only [execOp, Sem.run_bind]
  rw [show (parts.map fun (x : Nat × Operand) => match x with | (i, x) => (i, ev e x)) = parts.map fun x => (x.1, ev e x.2) from rfl, hrun]
  rfl
end
end Go.Proofs.Ythhphmbhlddihaa
