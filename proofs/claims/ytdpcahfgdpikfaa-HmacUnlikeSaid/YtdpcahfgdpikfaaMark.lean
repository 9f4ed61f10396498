/- A string's bytes, in a row that is marked behind its end; append onto it. No program in sight. -/
import Derived.Test.YtdpcahfgdpikfaaObj
import Derived.Laws.IdiomStrings
namespace Go.Proofs.Ytdpcahfgdpikfaa
open Go Go.RowKit
set_option linter.unusedVariables false
theorem run_storeCells_atM (P : Program) (g o : Nat) (t : TypeId) (fz : Nat × Nat) : ∀ (vs : List Value) (i : Nat) (cur : Array Value) (w : World), w.heap[g]? = some (.cells cur t fz) → cur.size ≤ fz.1 → o + i + vs.length ≤ cur.size → (∀ v ∈ vs, v.oneCell' = true) →
    (storeCells ⟨g, o, none⟩ vs i).run P w = .ok () (w.setRow g (cur.toList.take (o + i) ++ vs ++ cur.toList.drop (o + i + vs.length)).toArray)
  | [], i, cur, w, hg, _, _, _ => by
    simp only [storeCells, List.append_nil, List.length_nil, Nat.add_zero, List.take_append_drop, Array.toArray_toList]
    rw [setRow_self w g cur t fz hg]
    rfl
  | v :: rest, i, cur, w, hg, hfz, hl, h1 => by
    have hi : o + i < cur.size := by simp at hl; omega
    have hadd : (⟨g, o, none⟩ : Addr).add i = ⟨g, o + i, none⟩ := by unfold Addr.add; split <;> simp_all
    have hcell : w.cell? ⟨g, o + i, none⟩ = some cur[o + i] := by simp [World.cell?, hg, hi]
    have hfro : w.frozen? ⟨g, o + i, none⟩ = false := by
      obtain ⟨lo, hi'⟩ := fz
      simp only [World.frozen?, hg, Bool.and_eq_false_iff, decide_eq_false_iff_not]
      left
      simp only at hfz
      omega
    have hst : (store ((⟨g, o, none⟩ : Addr).add i) v).run P w = .ok () (w.setRow g (cur.setIfInBounds (o + i) v)) := by
      rw [hadd, run_store P w _ v _ (h1 v (by simp)), hcell]
      simp [hfro, setCell_eq_setRow w g (o + i) cur t fz v hg]
    have ih := run_storeCells_atM P g o t fz rest (i + 1) (cur.setIfInBounds (o + i) v) (w.setRow g (cur.setIfInBounds (o + i) v)) (setRow_heap w g cur _ t _ hg) (by simpa using hfz) (by simp at hl ⊢; omega) (fun x hx => h1 x (by simp [hx]))
    simp only [storeCells, Sem.run_bind, hst, Result.andThen_ok, ih, setRow_setRow]
    congr 3
    have e := list_seg_step cur.toList (o + i) v rest (by simp at hl ⊢; omega)
    simpa [Array.toList_setIfInBounds, Nat.add_assoc] using e
section
variable {P : Program} {ops : Array Oper} {Q : Exit → (Nat → Value) → World → Prop} {rest : List Oper} {e : Nat → Value} {w : World} {d : Tmp} {ty : TypeId} {pos : String} {aft : Array Edge}
/-- A row of bytes of a call's own, that may be marked behind its end. -/
structure Mrk (w : World) (base : Nat) (el : TypeId) (A : Option Addr) (n c : Nat) (l : List UInt8) : Prop where
  at_ : ∃ g cur fz, A = some ⟨g, 0, none⟩ ∧ base ≤ g ∧ w.heap[g]? = some (.cells cur el fz) ∧ cur.size ≤ fz.1 ∧ cur.size = c ∧ cur.toList.take n = l.map bv
  len : l.length = n
  le : n ≤ c
theorem OW_bytesOfM {x : Operand} {t t' el : TypeId} (s : ByteArray) (ht : P.underlying t = some .string) (hd : P.underlying t' = some (.slice el)) (he : P.underlying el = some (.int .u8)) (hx : ev e x = .string s) (hm : s.size ≤ maxLen)
    (h : ∀ w' A c, Mrk w' w.heap.size el A s.data.toList.length c s.data.toList → Ext w w' → OW P ops Q rest (upd e d (.slice A s.data.toList.length c)) w') : OW P ops Q (⟨some d, .convert t t' x, ty, pos, aft, none⟩ :: rest) e w := by
  have hlen : s.data.toList.length = s.size := by show s.data.toList.length = s.data.size; rw [Array.length_toList]
  have hr := run_bytes_of_string (P := P) w t t' el s ht hd he
  refine OW_valw (.slice (some ⟨w.heap.size, 0, none⟩) s.size (grownCap w s.size 0 el)) (w.drew.alloc (.cells (bytesRow s (grownCap w s.size 0 el)) el ((bytesRow s (grownCap w s.size 0 el)).size, (bytesRow s (grownCap w s.size 0 el)).size + 1))) rfl ?_ ?_
  · simp only [execOp, hx, Sem.run_bind, hr]; rfl
  · have hge := grownCap_ge w s.size 0 el
    have hh := h (w.drew.alloc (.cells (bytesRow s (grownCap w s.size 0 el)) el ((bytesRow s (grownCap w s.size 0 el)).size, (bytesRow s (grownCap w s.size 0 el)).size + 1))) (some ⟨w.heap.size, 0, none⟩) (grownCap w s.size 0 el)
    rw [hlen] at hh
    have hsz : (bytesRow s (grownCap w s.size 0 el)).size = grownCap w s.size 0 el := by
      unfold bytesRow
      rw [Array.size_append, Array.size_map, Array.size_replicate]
      show s.size + _ = _
      omega
    refine hh ⟨⟨w.heap.size, _, _, rfl, Nat.le_refl _, heap_alloc_new w.drew _, Nat.le_refl _, hsz, ?_⟩, hlen, hge⟩ ((Ext.drew' w).trans' (Ext.alloc' _ _))
    unfold bytesRow
    rw [Array.toList_append, Array.toList_map, List.take_append_of_le_length (by rw [List.length_map, hlen]; exact Nat.le_refl _), List.take_of_length_le (by rw [List.length_map, hlen]; exact Nat.le_refl _)]
    rfl
theorem Mrk.bs {base : Nat} {el : TypeId} {A : Option Addr} {n c : Nat} {l : List UInt8} (h : Mrk w base el A n c l) : Bs w A l := by
  obtain ⟨g, cur, fz, rfl, _, hg, _, _, ht⟩ := h.at_
  intro j u hu
  refine ⟨_, rfl, ?_⟩
  rw [add0, cell_of_row _ _ _ _ _ _ hg]
  rw [← ht, List.getElem?_take] at hu
  split at hu
  · simpa using hu
  · cases hu
theorem Mrk.block {base : Nat} {el : TypeId} {A : Option Addr} {n c : Nat} {l : List UInt8} (h : Mrk w base el A n c l) : ∀ ad, A = some ad → base ≤ ad.block ∧ ad.block < w.heap.size := by
  obtain ⟨g, cur, fz, rfl, hb, hg, _, _, ht⟩ := h.at_
  intro ad ha
  cases ha
  exact ⟨hb, (Array.getElem?_eq_some_iff.1 hg).1⟩
theorem Mrk.ext {w' : World} {base : Nat} {el : TypeId} {A : Option Addr} {n c : Nat} {l : List UInt8} (h : Mrk w base el A n c l) (hx : Ext w w') : Mrk w' base el A n c l := by
  obtain ⟨g, cur, fz, rfl, hb, hg, h1, h2, h3⟩ := h.at_
  exact ⟨⟨g, cur, fz, rfl, hb, (hx.block g (Array.getElem?_eq_some_iff.1 hg).1).trans hg, h1, h2, h3⟩, h.len, h.le⟩
/-- append of a row onto such a one. -/
theorem OW_appendM {x y : Operand} {t el : TypeId} {z : Value} {b : Nat} {base : Nat} {A : Option Addr} {ad : Addr} {n c m c' : Nat} {l l' : List UInt8} (ht : P.underlying t = some (.slice el)) (hinfo : (P.info? el).map (fun i => (i.zero, i.size, i.bytes)) = some (some z, 1, b)) (hz : z.cells.size = 1)
    (hx : ev e x = .slice A n c) (hy : ev e y = .slice (some ad) m c') (hown : Mrk w base el A n c l) (hrd : Bs w (some ad) l') (hl : l'.length = m)
    (hm : n + m ≤ maxLen) (hb : (n + m) * b ≤ 140737488355328) (hbase : base ≤ w.heap.size)
    (h : ∀ w' A2 c2, Bs w' A2 (l ++ l') → (∀ ad, A2 = some ad → base ≤ ad.block) → Below base w w' → OW P ops Q rest (upd e d (.slice A2 (n + m) c2)) w') :
    OW P ops Q (⟨some d, .call { callee := .builtin .append, args := #[x, y], argTypes := #[t, t] }, ty, pos, aft, none⟩ :: rest) e w := by
  obtain ⟨i0, hi, hz1, h2, h3⟩ := info_parts hinfo
  obtain ⟨g, cur, fz, rfl, hbg, hg, hfz, hcs, htk⟩ := hown.at_
  have hln := hown.len
  have hle := hown.le
  have hnews : ∀ j u, (l'.map bv)[j]? = some u → w.cell? (ad.add j) = some u := fun j u hu => by
    obtain ⟨ad', ha, hc⟩ := hrd j u hu
    cases ha
    exact hc
  have h1 : ∀ u ∈ l'.map bv, u.oneCell' = true := by
    intro u hu
    obtain ⟨b, _, rfl⟩ := List.mem_map.1 hu
    rfl
  by_cases hroom : n + m ≤ c
  · have hf := run_firstCells_some (P := P) w i0.size m ad m c' (l'.map bv) (by simp [hl, h2]) hnews
    have hst := run_storeCells_atM P g n el fz (l'.map bv) 0 cur w hg hfz (by simp [hl]; omega) h1
    simp only [Nat.add_zero] at hst
    have hr : (Builtin.append_ #[t, t] ty #[.slice (some ⟨g, 0, none⟩) n c, .slice (some ad) m c']).run P w = .ok (.slice (some ⟨g, 0, none⟩) (n + m) c) (w.setRow g (cur.toList.take n ++ l'.map bv ++ cur.toList.drop (n + (l'.map bv).length)).toArray) := by
      simp [Builtin.append_, run_underlying ht, sizeOf, typeInfo, hi, h2, Builtin.lenOf, hroom, Addr.add_lit]
      rw [h2] at hf
      simp [hf, hst]
    refine OW_valw (.slice (some ⟨g, 0, none⟩) (n + m) c) (w.setRow g (cur.toList.take n ++ l'.map bv ++ cur.toList.drop (n + (l'.map bv).length)).toArray) rfl (by simp only [execOp, resolve, invoke, builtin, hx, hy, List.map_toArray, List.map_cons, List.map_nil, Array.map, Sem.run_bind]; first | (rw [hr]; rfl) | simp [execOp, resolve, invoke, builtin, hx, hy, hr]) (h _ (some ⟨g, 0, none⟩) c ?_ (fun ad ha => by cases ha; exact hbg) ?_)
    · intro j u hu
      refine ⟨_, rfl, ?_⟩
      rw [add0, cell_of_row _ _ _ _ _ _ (setRow_heap w g cur _ el fz hg)]
      rw [htk, ← List.map_append]
      have hj : j < ((l ++ l').map bv).length := (List.getElem?_eq_some_iff.1 hu).1
      rw [List.getElem?_toArray, List.getElem?_append_left hj]
      exact hu
    · exact only_below (g := g) ⟨rfl, rfl, rfl, by simp, fun k hk hn => setRow_other w g k _ (fun hh => hn (by rw [hh]))⟩ hbg hbase
  · have holds : ∀ j u, (l.map bv)[j]? = some u → w.cell? ((⟨g, 0, none⟩ : Addr).add j) = some u := fun j u hu => by
      obtain ⟨ad', ha, hc⟩ := hown.bs j u hu
      cases ha
      exact hc
    have hr := run_append_grow (P := P) w t ty el i0 z ht hi hz1 ⟨g, 0, none⟩ n c (l.map bv) (by simp [hln, h2]) holds ad m c' (l'.map bv) (by simp [hl, h2]) hnews (by omega) (by unfold maxLen at hm; omega) (growslice_fits (by omega) (by rw [h3]; exact hb))
    refine OW_valw (.slice (some ⟨w.heap.size, 0, none⟩) (n + m) (grownCap w (n + m) c el)) (w.drew.alloc (.cells ((l.map bv).toArray ++ (l'.map bv).toArray ++ Builtin.zeroCells z.cells (grownCap w (n + m) c el - (n + m))) el)) rfl (by simp [execOp, resolve, invoke, builtin, hx, hy, hr]) (h _ (some ⟨w.heap.size, 0, none⟩) (grownCap w (n + m) c el) ?_ (fun ad ha => by cases ha; exact hbase) ?_)
    · intro j u hu
      refine ⟨_, rfl, ?_⟩
      rw [add0]
      have hbk := heap_alloc_new w.drew (.cells ((l.map bv).toArray ++ (l'.map bv).toArray ++ Builtin.zeroCells z.cells (grownCap w (n + m) c el - (n + m))) el)
      rw [show w.heap.size = w.drew.heap.size from rfl, cell_of_row _ _ _ _ _ _ hbk]
      have hj : j < ((l ++ l').map bv).length := (List.getElem?_eq_some_iff.1 hu).1
      rw [Array.getElem?_append_left (by simpa using hj)]
      rw [← hu]
      simp
    · exact ((Ext.drew' w).trans' (Ext.alloc' _ _)).mono hbase
end
end Go.Proofs.Ytdpcahfgdpikfaa
