/- Several texts in one, as they stand in wip/src. -/
import Derived.Laws.IdiomStrings
import Derived.Laws.CopyRow
import Derived.Test.YtdpcahfgdpikfaaGt2
import Derived.Test.YtdpcahfgdpikfaaGt3
import Derived.Test.YtdpcahfgdpikfaaGt4
import Derived.Test.YtdpcahfgdpikfaaGt11
import Derived.Test.YtdpcahfgdpikfaaGt12
/- Data that comes in: plain types and lists of them. -/
namespace Go.Proofs.Ytdpcahfgdpikfaa
open Go Go.RowKit Go.ChangeShapes Go.WideShapes
set_option linter.unusedVariables false
theorem okWide_array {P : Program} {w : World} {r : Reach} {base : Nat} {t el : TypeId} {m : Nat} {v : Value} (ht : P.underlying t = some (.array m el)) (h : Value.okWide P w r base t v) : ∃ cs, v = .agg cs ∧ cs.size = P.cellsOf t := by
  simp only [Value.okWide, ht] at h
  obtain ⟨cs, h1, h2, _⟩ := h
  exact ⟨cs, h1, h2⟩
theorem kd_arr {P : Program} {t el : TypeId} {m : Nat} {α : Type} {H : Type} {enc : TypeId × Value → H} {w : World} {v : Value} {d : DataW H} {ps : List MemPlace} {r : Reach} {b0 : Nat} (k : KD P t α) (ht : P.underlying t = some (.array m el)) (hv : Value.okWide P w r b0 t v) (h : DataW.Trod enc P w 0 (fun _ => true) true t v d ps) (hw : WOk P t d) : ∃ cs a, v = .agg cs.toArray ∧ k.R w cs a := by
  obtain ⟨cs, rfl, hsz⟩ := okWide_array ht hv
  obtain ⟨fuel, hf⟩ := h
  obtain ⟨a, ha⟩ := k.opn hf hw
  exact ⟨cs.toList, a, by simp, ha⟩
def kI : KD Try.prog 3 Int := kInt und_int (by kernel_rfl)
def kB8 : KD Try.prog 5 UInt8 := kU8 und_u8 (by kernel_rfl)
def kBo : KD Try.prog 4 Bool := kBool und_bool (by kernel_rfl)
def kSt : KD Try.prog 9 ByteArray := kStr Try.underlying9 (by kernel_rfl)
def kBs : KD Try.prog 22 (List UInt8) := kBytes und_bytes und_u8 (by kernel_rfl) (by kernel_rfl) (of_decide_eq_true (by kernel_rfl))
def kTag : KD Try.prog 29 (List UInt8) := kArr s_und_Tag und_u8 (by kernel_rfl) (by kernel_rfl)
theorem und_ints : Try.prog.underlying 107 = some (.slice 3) := Try.underlying107
def kIs : KD Try.prog 107 (List Int) := kSlice kI und_ints (by kernel_rfl) (of_decide_eq_true (by kernel_rfl))
def kBss : KD Try.prog 38 (List (List UInt8)) := kSlice kBs und_bytess (by kernel_rfl) (of_decide_eq_true (by kernel_rfl))
/-- A slice of numbers. -/
def Is (w : World) (A : Option Addr) (l : List Int) : Prop := Rd w A (l.map iv)
theorem Is.ext {w w' : World} {A : Option Addr} {l : List Int} (h : Is w A l) (hx : Ext w w') : Is w' A l := Rd.ext h hx
theorem Is.at_ {w : World} {A : Option Addr} {l : List Int} (h : Is w A l) {j : Nat} (hj : j < l.length) : ∃ ad, A = some ad ∧ w.cell? (ad.add j) = some (.int .i64 l[j]) := by
  obtain ⟨ad, ha, hc⟩ := Rd.at_ h (j := j) (by simpa using hj)
  exact ⟨ad, ha, by simpa [iv] using hc⟩
theorem slr_one {w : World} {A : Option Addr} {α : Type} {R : World → List Value → α → Prop} {l : List α} (f : α → Value) (hf : ∀ cs a, R w cs a → cs = [f a]) (h : SlR 1 R w A l) : Rd w A (l.map f) := by
  intro j u hu
  have hj : j < l.length := by have := (List.getElem?_eq_some_iff.1 hu).1; simpa using this
  obtain ⟨ad, ce, e1, e2, e3, e4⟩ := h j hj
  have := hf _ _ e4
  subst this
  refine ⟨ad, e1, ?_⟩
  have h0 := e3 0 (f l[j]) rfl
  rw [addr_add_add, Nat.mul_one, Nat.add_zero] at h0
  rw [h0, ← hu, List.getElem?_map, List.getElem?_eq_getElem hj]
  rfl
theorem is_of {w : World} {A : Option Addr} {l : List Int} (h : SlR kI.n kI.R w A l) : Is w A l := slr_one iv (fun cs a hr => hr.1) h
theorem i64s_of {w : World} {A : Option Addr} {l : List Int} (h : SlR kI.n kI.R w A l) : ∀ n ∈ l, I64 n := fun n hn => by
  obtain ⟨i, hi, rfl⟩ := List.mem_iff_getElem.1 hn
  obtain ⟨ad, ce, e1, e2, e3, e4⟩ := h i hi
  exact e4.2
end Go.Proofs.Ytdpcahfgdpikfaa

/- The types of package wire: their rows, their fields' places. -/
namespace Go.Proofs.Ytdpcahfgdpikfaa
open Go Go.RowKit
theorem one_bool : OneT Try.prog 4 := ⟨.bool false, 1, by kernel_rfl, rfl, by kernel_rfl⟩
theorem one_errno : OneT Try.prog 26 := ⟨.int .i64 0, 8, by kernel_rfl, rfl, by kernel_rfl⟩
theorem und_string : Try.prog.underlying 9 = some .string := Try.underlying9
theorem slp_Tag : SlP Try.prog 29 32 := ⟨fun w g => by kernel_rfl⟩
end Go.Proofs.Ytdpcahfgdpikfaa

/- A string's bytes, in a row that is marked behind its end; append onto it. No program in sight. -/
namespace Go.Proofs.Ytdpcahfgdpikfaa
open Go Go.RowKit
set_option linter.unusedVariables false
theorem run_storeCells_atM (P : Program) (g o : Nat) (t : TypeId) (fz : Nat × Nat) : ∀ (vs : List Value) (i : Nat) (cur : Array Value) (w : World), w.heap[g]? = some (.cells cur t fz) → cur.size ≤ fz.1 → o + i + vs.length ≤ cur.size → (∀ v ∈ vs, v.oneCell' = true) →
    (storeCells ⟨g, o, none⟩ vs i).run P w = .ok () (w.setRow g (cur.toList.take (o + i) ++ vs ++ cur.toList.drop (o + i + vs.length)).toArray)
  | [], i, cur, w, hg, _, _, _ => by
    simp only [storeCells, List.append_nil, List.length_nil, Nat.add_zero, List.take_append_drop, Array.toArray_toList]
    rw [setRow_self w g cur t fz hg]
    rfl
  | v :: rest, i, cur, w, hg, hfz, hl, h1 => by
    have hi : o + i < cur.size := by simp at hl; omega
    have hadd : (⟨g, o, none⟩ : Addr).add i = ⟨g, o + i, none⟩ := by unfold Addr.add; split <;> simp_all
    have hcell : w.cell? ⟨g, o + i, none⟩ = some cur[o + i] := by simp [World.cell?, hg, hi]
    have hfro : w.frozen? ⟨g, o + i, none⟩ = false := by
      obtain ⟨lo, hi'⟩ := fz
      simp only [World.frozen?, hg, Bool.and_eq_false_iff, decide_eq_false_iff_not]
      left
      simp only at hfz
      omega
    have hst : (store ((⟨g, o, none⟩ : Addr).add i) v).run P w = .ok () (w.setRow g (cur.setIfInBounds (o + i) v)) := by
      rw [hadd, run_store P w _ v _ (h1 v (by simp)), hcell]
      simp [hfro, setCell_eq_setRow w g (o + i) cur t fz v hg]
    have ih := run_storeCells_atM P g o t fz rest (i + 1) (cur.setIfInBounds (o + i) v) (w.setRow g (cur.setIfInBounds (o + i) v)) (setRow_heap w g cur _ t _ hg) (by simpa using hfz) (by simp at hl ⊢; omega) (fun x hx => h1 x (by simp [hx]))
    simp only [storeCells, Sem.run_bind, hst, Result.andThen_ok, ih, setRow_setRow]
    congr 3
    have e := list_seg_step cur.toList (o + i) v rest (by simp at hl ⊢; omega)
    simpa [Array.toList_setIfInBounds, Nat.add_assoc] using e
section
variable {P : Program} {ops : Array Oper} {Q : Exit → (Nat → Value) → World → Prop} {rest : List Oper} {e : Nat → Value} {w : World} {d : Tmp} {ty : TypeId} {pos : String} {aft : Array Edge}
/-- A row of bytes of a call's own, that may be marked behind its end. -/
structure Mrk (w : World) (base : Nat) (el : TypeId) (A : Option Addr) (n c : Nat) (l : List UInt8) : Prop where
  at_ : ∃ g cur fz, A = some ⟨g, 0, none⟩ ∧ base ≤ g ∧ w.heap[g]? = some (.cells cur el fz) ∧ cur.size ≤ fz.1 ∧ cur.size = c ∧ cur.toList.take n = l.map bv
  len : l.length = n
  le : n ≤ c
theorem OW_bytesOfM {x : Operand} {t t' el : TypeId} (s : ByteArray) (ht : P.underlying t = some .string) (hd : P.underlying t' = some (.slice el)) (he : P.underlying el = some (.int .u8)) (hx : ev e x = .string s) (hm : s.size ≤ maxLen)
    (h : ∀ w' A c, Mrk w' w.heap.size el A s.data.toList.length c s.data.toList → Ext w w' → OW P ops Q rest (upd e d (.slice A s.data.toList.length c)) w') : OW P ops Q (⟨some d, .convert t t' x, ty, pos, aft, none⟩ :: rest) e w := by
  have hlen : s.data.toList.length = s.size := by show s.data.toList.length = s.data.size; rw [Array.length_toList]
  have hr := run_bytes_of_string (P := P) w t t' el s ht hd he
  refine OW_valw (.slice (some ⟨w.heap.size, 0, none⟩) s.size (grownCap w s.size 0 el)) (w.drew.alloc (.cells (bytesRow s (grownCap w s.size 0 el)) el ((bytesRow s (grownCap w s.size 0 el)).size, (bytesRow s (grownCap w s.size 0 el)).size + 1))) rfl ?_ ?_
  · simp only [execOp, hx, Sem.run_bind, hr]; rfl
  · have hge := grownCap_ge w s.size 0 el
    have hh := h (w.drew.alloc (.cells (bytesRow s (grownCap w s.size 0 el)) el ((bytesRow s (grownCap w s.size 0 el)).size, (bytesRow s (grownCap w s.size 0 el)).size + 1))) (some ⟨w.heap.size, 0, none⟩) (grownCap w s.size 0 el)
    rw [hlen] at hh
    have hsz : (bytesRow s (grownCap w s.size 0 el)).size = grownCap w s.size 0 el := by
      unfold bytesRow
      rw [Array.size_append, Array.size_map, Array.size_replicate]
      show s.size + _ = _
      omega
    refine hh ⟨⟨w.heap.size, _, _, rfl, Nat.le_refl _, heap_alloc_new w.drew _, Nat.le_refl _, hsz, ?_⟩, hlen, hge⟩ ((Ext.drew' w).trans' (Ext.alloc' _ _))
    unfold bytesRow
    rw [Array.toList_append, Array.toList_map, List.take_append_of_le_length (by rw [List.length_map, hlen]; exact Nat.le_refl _), List.take_of_length_le (by rw [List.length_map, hlen]; exact Nat.le_refl _)]
    rfl
theorem Mrk.bs {base : Nat} {el : TypeId} {A : Option Addr} {n c : Nat} {l : List UInt8} (h : Mrk w base el A n c l) : Bs w A l := by
  obtain ⟨g, cur, fz, rfl, _, hg, _, _, ht⟩ := h.at_
  intro j u hu
  refine ⟨_, rfl, ?_⟩
  rw [add0, cell_of_row _ _ _ _ _ _ hg]
  rw [← ht, List.getElem?_take] at hu
  split at hu
  · simpa using hu
  · cases hu
theorem Mrk.block {base : Nat} {el : TypeId} {A : Option Addr} {n c : Nat} {l : List UInt8} (h : Mrk w base el A n c l) : ∀ ad, A = some ad → base ≤ ad.block ∧ ad.block < w.heap.size := by
  obtain ⟨g, cur, fz, rfl, hb, hg, _, _, ht⟩ := h.at_
  intro ad ha
  cases ha
  exact ⟨hb, (Array.getElem?_eq_some_iff.1 hg).1⟩
theorem Mrk.ext {w' : World} {base : Nat} {el : TypeId} {A : Option Addr} {n c : Nat} {l : List UInt8} (h : Mrk w base el A n c l) (hx : Ext w w') : Mrk w' base el A n c l := by
  obtain ⟨g, cur, fz, rfl, hb, hg, h1, h2, h3⟩ := h.at_
  exact ⟨⟨g, cur, fz, rfl, hb, (hx.block g (Array.getElem?_eq_some_iff.1 hg).1).trans hg, h1, h2, h3⟩, h.len, h.le⟩
/-- append of a row onto such a one. -/
theorem OW_appendM {x y : Operand} {t el : TypeId} {z : Value} {b : Nat} {base : Nat} {A : Option Addr} {ad : Addr} {n c m c' : Nat} {l l' : List UInt8} (ht : P.underlying t = some (.slice el)) (hinfo : (P.info? el).map (fun i => (i.zero, i.size, i.bytes)) = some (some z, 1, b)) (hz : z.cells.size = 1)
    (hx : ev e x = .slice A n c) (hy : ev e y = .slice (some ad) m c') (hown : Mrk w base el A n c l) (hrd : Bs w (some ad) l') (hl : l'.length = m)
    (hm : n + m ≤ maxLen) (hb : (n + m) * b ≤ 140737488355328) (hbase : base ≤ w.heap.size)
    (h : ∀ w' A2 c2, Bs w' A2 (l ++ l') → (∀ ad, A2 = some ad → base ≤ ad.block) → Below base w w' → OW P ops Q rest (upd e d (.slice A2 (n + m) c2)) w') :
    OW P ops Q (⟨some d, .call { callee := .builtin .append, args := #[x, y], argTypes := #[t, t] }, ty, pos, aft, none⟩ :: rest) e w := by
  obtain ⟨i0, hi, hz1, h2, h3⟩ := info_parts hinfo
  obtain ⟨g, cur, fz, rfl, hbg, hg, hfz, hcs, htk⟩ := hown.at_
  have hln := hown.len
  have hle := hown.le
  have hnews : ∀ j u, (l'.map bv)[j]? = some u → w.cell? (ad.add j) = some u := fun j u hu => by
    obtain ⟨ad', ha, hc⟩ := hrd j u hu
    cases ha
    exact hc
  have h1 : ∀ u ∈ l'.map bv, u.oneCell' = true := by
    intro u hu
    obtain ⟨b, _, rfl⟩ := List.mem_map.1 hu
    rfl
  by_cases hroom : n + m ≤ c
  · have hf := run_firstCells_some (P := P) w i0.size m ad m c' (l'.map bv) (by simp [hl, h2]) hnews
    have hst := run_storeCells_atM P g n el fz (l'.map bv) 0 cur w hg hfz (by simp [hl]; omega) h1
    simp only [Nat.add_zero] at hst
    have hr : (Builtin.append_ #[t, t] ty #[.slice (some ⟨g, 0, none⟩) n c, .slice (some ad) m c']).run P w = .ok (.slice (some ⟨g, 0, none⟩) (n + m) c) (w.setRow g (cur.toList.take n ++ l'.map bv ++ cur.toList.drop (n + (l'.map bv).length)).toArray) := by
      simp [Builtin.append_, run_underlying ht, sizeOf, typeInfo, hi, h2, Builtin.lenOf, hroom, Addr.add_lit]
      rw [h2] at hf
      simp [hf, hst]
    refine OW_valw (.slice (some ⟨g, 0, none⟩) (n + m) c) (w.setRow g (cur.toList.take n ++ l'.map bv ++ cur.toList.drop (n + (l'.map bv).length)).toArray) rfl (by simp only [execOp, resolve, invoke, builtin, hx, hy, List.map_toArray, List.map_cons, List.map_nil, Array.map, Sem.run_bind]; first | (rw [hr]; rfl) | simp [execOp, resolve, invoke, builtin, hx, hy, hr]) (h _ (some ⟨g, 0, none⟩) c ?_ (fun ad ha => by cases ha; exact hbg) ?_)
    · intro j u hu
      refine ⟨_, rfl, ?_⟩
      rw [add0, cell_of_row _ _ _ _ _ _ (setRow_heap w g cur _ el fz hg)]
      rw [htk, ← List.map_append]
      have hj : j < ((l ++ l').map bv).length := (List.getElem?_eq_some_iff.1 hu).1
      rw [List.getElem?_toArray, List.getElem?_append_left hj]
      exact hu
    · exact only_below (g := g) ⟨rfl, rfl, rfl, by simp, fun k hk hn => setRow_other w g k _ (fun hh => hn (by rw [hh]))⟩ hbg hbase
  · have holds : ∀ j u, (l.map bv)[j]? = some u → w.cell? ((⟨g, 0, none⟩ : Addr).add j) = some u := fun j u hu => by
      obtain ⟨ad', ha, hc⟩ := hown.bs j u hu
      cases ha
      exact hc
    have hr := run_append_grow (P := P) w t ty el i0 z ht hi hz1 ⟨g, 0, none⟩ n c (l.map bv) (by simp [hln, h2]) holds ad m c' (l'.map bv) (by simp [hl, h2]) hnews (by omega) (by unfold maxLen at hm; omega) (growslice_fits (by omega) (by rw [h3]; exact hb))
    refine OW_valw (.slice (some ⟨w.heap.size, 0, none⟩) (n + m) (grownCap w (n + m) c el)) (w.drew.alloc (.cells ((l.map bv).toArray ++ (l'.map bv).toArray ++ Builtin.zeroCells z.cells (grownCap w (n + m) c el - (n + m))) el)) rfl (by simp [execOp, resolve, invoke, builtin, hx, hy, hr]) (h _ (some ⟨w.heap.size, 0, none⟩) (grownCap w (n + m) c el) ?_ (fun ad ha => by cases ha; exact hbase) ?_)
    · intro j u hu
      refine ⟨_, rfl, ?_⟩
      rw [add0]
      have hbk := heap_alloc_new w.drew (.cells ((l.map bv).toArray ++ (l'.map bv).toArray ++ Builtin.zeroCells z.cells (grownCap w (n + m) c el - (n + m))) el)
      rw [show w.heap.size = w.drew.heap.size from rfl, cell_of_row _ _ _ _ _ _ hbk]
      have hj : j < ((l ++ l').map bv).length := (List.getElem?_eq_some_iff.1 hu).1
      rw [Array.getElem?_append_left (by simpa using hj)]
      rw [← hu]
      simp
    · exact ((Ext.drew' w).trans' (Ext.alloc' _ _)).mono hbase
end
end Go.Proofs.Ytdpcahfgdpikfaa

/- SHA-256 and HMAC computed, byte by byte. No program in sight. -/
namespace Go.Proofs.Ytdpcahfgdpikfaa
open Go Go.RowKit
set_option linter.unusedVariables false
def shaK (l : List UInt8) : List UInt8 := shaF l fun a b c d e f g h => putL a 4 ++ (putL b 4 ++ (putL c 4 ++ (putL d 4 ++ (putL e 4 ++ (putL f 4 ++ (putL g 4 ++ putL h 4))))))
theorem shaK_eq (l : List UInt8) : shaK l = shaL l := by
  unfold shaK
  rw [shaF_eq]
  unfold give shaL outB N8.l
  simp
def hmacK (key b : List UInt8) : List UInt8 := shaK (xorB 92 (keyB key) ++ shaK (xorB 54 (keyB key) ++ b))
theorem hmacK_eq (key b : List UInt8) : hmacK key b = hmacL key b := by
  unfold hmacK hmacL
  rw [shaK_eq, shaK_eq]
theorem ovr_set {n k : Nat} {a b : UInt8} (h : k < n) : (List.replicate k a ++ List.replicate (n - k) b).set k a = List.replicate (k + 1) a ++ List.replicate (n - (k + 1)) b := by
  rw [List.set_append_right _ _ (by simp), List.length_replicate, Nat.sub_self, show n - k = (n - (k + 1)) + 1 by omega, List.replicate_succ, List.set_cons_zero, List.replicate_succ', List.append_assoc]
  rfl
end Go.Proofs.Ytdpcahfgdpikfaa

/- The first number of an HMAC, computed; what is summed up to derive a key. No program in sight. -/
namespace Go.Proofs.Ytdpcahfgdpikfaa
open Go Go.RowKit
set_option linter.unusedVariables false
/-- What is summed up to derive a key. -/
def formB (s : ByteArray) (l : List Int) : List UInt8 := s.data.toList ++ (([0] : List UInt8) ++ numsB l)
theorem formB_length (s : ByteArray) (l : List Int) : (formB s l).length = s.data.toList.length + (1 + 8 * l.length) := by simp [formB, numsB_length]; omega
theorem formB_take {s : ByteArray} {l : List Int} {k : Nat} (h : k < l.length) : formB s (l.take (k + 1)) = formB s (l.take k) ++ putL (u64N l[k]) 8 := by
  unfold formB
  rw [take_succ_get l k h, numsB_snoc]
  simp
theorem putL4_injW {x y : Nat} (hx : x < 4294967296) (hy : y < 4294967296) (h : putL x 4 = putL y 4) : x = y := by
  have h0 : UInt8.ofNat (x / 256 ^ 3) = UInt8.ofNat (y / 256 ^ 3) := congrArg (fun l => l.getD 0 0) h
  have h1 : UInt8.ofNat (x / 256 ^ 2) = UInt8.ofNat (y / 256 ^ 2) := congrArg (fun l => l.getD 1 0) h
  have h2 : UInt8.ofNat (x / 256 ^ 1) = UInt8.ofNat (y / 256 ^ 1) := congrArg (fun l => l.getD 2 0) h
  have h3 : UInt8.ofNat (x / 256 ^ 0) = UInt8.ofNat (y / 256 ^ 0) := congrArg (fun l => l.getD 3 0) h
  have k0 := congrArg UInt8.toNat h0
  have k1 := congrArg UInt8.toNat h1
  have k2 := congrArg UInt8.toNat h2
  have k3 := congrArg UInt8.toNat h3
  rw [UInt8.toNat_ofNat', UInt8.toNat_ofNat'] at k0 k1 k2 k3
  simp only [Nat.reducePow, Nat.div_one] at k0 k1 k2 k3
  omega
theorem fst4W (s : N8) : (outB s).take 4 = putL s.a.toNat 4 := rfl
def hmW (key b : List UInt8) : Nat := shaF (xorB 92 (keyB key) ++ shaK (xorB 54 (keyB key) ++ b)) fun a _ _ _ _ _ _ _ => a
theorem hmW_inj {k1 b1 k2 b2 : List UInt8} (h : hmacL k1 b1 = hmacL k2 b2) : hmW k1 b1 = hmW k2 b2 := by
  unfold hmW
  rw [shaF_eq, shaF_eq, shaK_eq, shaK_eq]
  have h1 := congrArg (List.take 4) h
  unfold hmacL at h1
  unfold shaL at h1
  rw [fst4W, fst4W] at h1
  exact putL4_injW (u32_lt _) (u32_lt _) h1
end Go.Proofs.Ytdpcahfgdpikfaa

/- Walks: keys that are derived; tags compared. -/
namespace Go.Proofs.Ytdpcahfgdpikfaa
open Go Go.RowKit
set_option linter.unusedVariables false
theorem go_Hm4 {A B : Prop} (h : Held B → A := by
  intro hEnd
  repeat (first | refine OW_sliceP h_slp_Tag rfl ?_ | refine OW_moveV (.int _ _) rfl ?_ | refine OW_moveV (.slice _ _ _) rfl ?_ | refine OW_moveV (.bool _) rfl ?_ | refine OW_moveV (.pointer _) rfl ?_ | refine OW_moveV (.string _) rfl ?_ | refine OW_moveV (.agg _) rfl ?_ | refine OW_moveV (.tuple _) rfl ?_ | refine OW_nil ?_ | refine thenE_normal ?_ | refine CW_seq ?_ | refine CW_region (by kernel_rfl) ?_ | refine OW_assignV (.int _ _) rfl ?_ | refine OW_assignV (.slice _ _ _) rfl ?_ | refine OW_assignV (.bool _) rfl ?_ | refine OW_assignV (.pointer _) rfl ?_ | refine OW_assignV (.string _) rfl ?_ | refine OW_assignV (.agg _) rfl ?_ | refine OW_assignV (.tuple _) rfl ?_ | refine OW_addI rfl rfl (by omega) ?_ | refine OW_subI rfl rfl (by omega) ?_ | refine OW_mulI rfl rfl (by omega) ?_ | refine OW_lss rfl rfl ?_ | refine OW_extract rfl rfl ?_ | refine OW_gtr rfl rfl ?_ | refine OW_leq rfl rfl ?_ | refine OW_geq rfl rfl ?_ | refine OW_eql rfl rfl ?_ | refine OW_neq rfl rfl ?_ | refine OW_not rfl ?_ | refine OW_pickT rfl _ rfl ?_ | refine OW_pickF rfl (.bool _) rfl ?_ | refine OW_pickB rfl rfl rfl ?_ | refine OW_move ?_ | refine OW_assign ?_ | refine OW_pass rfl ?_ | refine OW_take rfl ?_ | refine OW_lenS (by first | with_reducible exact und_bytes | with_reducible exact und_bytess) rfl ?_ | refine OW_convInt (by first | with_reducible exact und_u8 | with_reducible exact und_u64 | with_reducible exact und_int | with_reducible exact und_u32) (by first | with_reducible exact und_u8 | with_reducible exact und_u64 | with_reducible exact und_int | with_reducible exact und_u32) rfl ?_ | refine OW_add rfl rfl ?_ | refine OW_sub rfl rfl ?_ | refine OW_mul rfl rfl ?_ | refine OW_min2 rfl rfl ?_ | refine OW_max2 rfl rfl ?_ | refine OW_neg rfl ?_ | refine CW_block ?_ | refine CW_condT rfl ?_ | refine CW_condF rfl ?_ | refine CW_exit ?_ | refine CW_ret ?_ | refine CW_skip ?_ | refine LW_seq ?_ | refine LW_regC ?_ | refine LW_condC ?_ | refine LW_regF ?_ | refine LW_condF ?_ | refine FW_seq ?_ | refine FW_region (by kernel_rfl) ?_ | refine FW_block ?_ | refine FW_condT rfl ?_ | refine FW_condF rfl ?_ | refine FW_exit ?_ | refine FW_ret ?_ | refine FW_skip ?_ | refine LW_ret ?_ | refine LW_skip ?_ | refine thenE_exit ?_ | refine thenE_ret ?_ | refine inBlockE_normal ?_ | refine inBlockE_same ?_ | refine inBlockE_ret ?_ | refine inBlockE_ne (by rfl) ?_ | refine OW_eqlB (by with_reducible exact und_bool) rfl rfl ?_ | refine OW_neqB (by with_reducible exact und_bool) rfl rfl ?_ | refine OW_idxS (by with_reducible exact und_bytes) one_u8 rfl rfl _ rfl (by omega) ?_ | refine OW_idxS (by with_reducible exact und_bytess) one_bytes rfl rfl _ rfl (by omega) ?_ | refine OW_load1 (by first | with_reducible exact one_u8 | with_reducible exact one_bytes) rfl _ (by assumption) ?_ | refine OW_lenS und_ints rfl ?_ | refine OW_idxS und_ints s_int rfl rfl _ rfl (by omega) ?_ | refine OW_load1 s_int rfl _ (by assumption) ?_)
  exact hEnd.out) (k : B) : A := h ⟨k⟩
theorem oy_Hm4 {A B : Prop} (h : Held B → A := by
  intro hEnd
  repeat (first
    | refine OY_done ?_
    | (apply OY_p _ rfl
       · intro wd
         (first | refine OW_sliceP h_slp_Tag rfl ?_ | refine OW_moveV (.int _ _) rfl ?_ | refine OW_moveV (.slice _ _ _) rfl ?_ | refine OW_moveV (.bool _) rfl ?_ | refine OW_moveV (.pointer _) rfl ?_ | refine OW_moveV (.string _) rfl ?_ | refine OW_moveV (.agg _) rfl ?_ | refine OW_moveV (.tuple _) rfl ?_ | refine OW_nil ?_ | refine thenE_normal ?_ | refine CW_seq ?_ | refine CW_region (by kernel_rfl) ?_ | refine OW_assignV (.int _ _) rfl ?_ | refine OW_assignV (.slice _ _ _) rfl ?_ | refine OW_assignV (.bool _) rfl ?_ | refine OW_assignV (.pointer _) rfl ?_ | refine OW_assignV (.string _) rfl ?_ | refine OW_assignV (.agg _) rfl ?_ | refine OW_assignV (.tuple _) rfl ?_ | refine OW_addI rfl rfl (by omega) ?_ | refine OW_subI rfl rfl (by omega) ?_ | refine OW_mulI rfl rfl (by omega) ?_ | refine OW_lss rfl rfl ?_ | refine OW_extract rfl rfl ?_ | refine OW_gtr rfl rfl ?_ | refine OW_leq rfl rfl ?_ | refine OW_geq rfl rfl ?_ | refine OW_eql rfl rfl ?_ | refine OW_neq rfl rfl ?_ | refine OW_not rfl ?_ | refine OW_pickT rfl _ rfl ?_ | refine OW_pickF rfl (.bool _) rfl ?_ | refine OW_pickB rfl rfl rfl ?_ | refine OW_move ?_ | refine OW_assign ?_ | refine OW_pass rfl ?_ | refine OW_take rfl ?_ | refine OW_lenS (by first | with_reducible exact und_bytes | with_reducible exact und_bytess) rfl ?_ | refine OW_convInt (by first | with_reducible exact und_u8 | with_reducible exact und_u64 | with_reducible exact und_int | with_reducible exact und_u32) (by first | with_reducible exact und_u8 | with_reducible exact und_u64 | with_reducible exact und_int | with_reducible exact und_u32) rfl ?_ | refine OW_add rfl rfl ?_ | refine OW_sub rfl rfl ?_ | refine OW_mul rfl rfl ?_ | refine OW_min2 rfl rfl ?_ | refine OW_max2 rfl rfl ?_ | refine OW_neg rfl ?_ | refine CW_block ?_ | refine CW_condT rfl ?_ | refine CW_condF rfl ?_ | refine CW_exit ?_ | refine CW_ret ?_ | refine CW_skip ?_ | refine LW_seq ?_ | refine LW_regC ?_ | refine LW_condC ?_ | refine LW_regF ?_ | refine LW_condF ?_ | refine FW_seq ?_ | refine FW_region (by kernel_rfl) ?_ | refine FW_block ?_ | refine FW_condT rfl ?_ | refine FW_condF rfl ?_ | refine FW_exit ?_ | refine FW_ret ?_ | refine FW_skip ?_ | refine LW_ret ?_ | refine LW_skip ?_ | refine thenE_exit ?_ | refine thenE_ret ?_ | refine inBlockE_normal ?_ | refine inBlockE_same ?_ | refine inBlockE_ret ?_ | refine inBlockE_ne (by rfl) ?_ | refine OW_eqlB (by with_reducible exact und_bool) rfl rfl ?_ | refine OW_neqB (by with_reducible exact und_bool) rfl rfl ?_ | refine OW_idxS (by with_reducible exact und_bytes) one_u8 rfl rfl _ rfl (by omega) ?_ | refine OW_idxS (by with_reducible exact und_bytess) one_bytes rfl rfl _ rfl (by omega) ?_ | refine OW_load1 (by first | with_reducible exact one_u8 | with_reducible exact one_bytes) rfl _ (by assumption) ?_ | refine OW_lenS und_ints rfl ?_ | refine OW_idxS und_ints s_int rfl rfl _ rfl (by omega) ?_ | refine OW_load1 s_int rfl _ (by assumption) ?_)
         refine OW_nil ?_
         exact stay_mk _ _ _ _)
    | (apply OY_q _ rfl
       · intro wd hwd
         (first | refine OW_sliceP h_slp_Tag rfl ?_ | refine OW_moveV (.int _ _) rfl ?_ | refine OW_moveV (.slice _ _ _) rfl ?_ | refine OW_moveV (.bool _) rfl ?_ | refine OW_moveV (.pointer _) rfl ?_ | refine OW_moveV (.string _) rfl ?_ | refine OW_moveV (.agg _) rfl ?_ | refine OW_moveV (.tuple _) rfl ?_ | refine OW_nil ?_ | refine thenE_normal ?_ | refine CW_seq ?_ | refine CW_region (by kernel_rfl) ?_ | refine OW_assignV (.int _ _) rfl ?_ | refine OW_assignV (.slice _ _ _) rfl ?_ | refine OW_assignV (.bool _) rfl ?_ | refine OW_assignV (.pointer _) rfl ?_ | refine OW_assignV (.string _) rfl ?_ | refine OW_assignV (.agg _) rfl ?_ | refine OW_assignV (.tuple _) rfl ?_ | refine OW_addI rfl rfl (by omega) ?_ | refine OW_subI rfl rfl (by omega) ?_ | refine OW_mulI rfl rfl (by omega) ?_ | refine OW_lss rfl rfl ?_ | refine OW_extract rfl rfl ?_ | refine OW_gtr rfl rfl ?_ | refine OW_leq rfl rfl ?_ | refine OW_geq rfl rfl ?_ | refine OW_eql rfl rfl ?_ | refine OW_neq rfl rfl ?_ | refine OW_not rfl ?_ | refine OW_pickT rfl _ rfl ?_ | refine OW_pickF rfl (.bool _) rfl ?_ | refine OW_pickB rfl rfl rfl ?_ | refine OW_move ?_ | refine OW_assign ?_ | refine OW_pass rfl ?_ | refine OW_take rfl ?_ | refine OW_lenS (by first | with_reducible exact und_bytes | with_reducible exact und_bytess) rfl ?_ | refine OW_convInt (by first | with_reducible exact und_u8 | with_reducible exact und_u64 | with_reducible exact und_int | with_reducible exact und_u32) (by first | with_reducible exact und_u8 | with_reducible exact und_u64 | with_reducible exact und_int | with_reducible exact und_u32) rfl ?_ | refine OW_add rfl rfl ?_ | refine OW_sub rfl rfl ?_ | refine OW_mul rfl rfl ?_ | refine OW_min2 rfl rfl ?_ | refine OW_max2 rfl rfl ?_ | refine OW_neg rfl ?_ | refine CW_block ?_ | refine CW_condT rfl ?_ | refine CW_condF rfl ?_ | refine CW_exit ?_ | refine CW_ret ?_ | refine CW_skip ?_ | refine LW_seq ?_ | refine LW_regC ?_ | refine LW_condC ?_ | refine LW_regF ?_ | refine LW_condF ?_ | refine FW_seq ?_ | refine FW_region (by kernel_rfl) ?_ | refine FW_block ?_ | refine FW_condT rfl ?_ | refine FW_condF rfl ?_ | refine FW_exit ?_ | refine FW_ret ?_ | refine FW_skip ?_ | refine LW_ret ?_ | refine LW_skip ?_ | refine thenE_exit ?_ | refine thenE_ret ?_ | refine inBlockE_normal ?_ | refine inBlockE_same ?_ | refine inBlockE_ret ?_ | refine inBlockE_ne (by rfl) ?_ | refine OW_eqlB (by with_reducible exact und_bool) rfl rfl ?_ | refine OW_neqB (by with_reducible exact und_bool) rfl rfl ?_ | refine OW_idxS (by with_reducible exact und_bytes) one_u8 rfl rfl _ rfl (by omega) ?_ | refine OW_idxS (by with_reducible exact und_bytess) one_bytes rfl rfl _ rfl (by omega) ?_ | refine OW_load1 (by first | with_reducible exact one_u8 | with_reducible exact one_bytes) rfl _ (by assumption) ?_ | refine OW_lenS und_ints rfl ?_ | refine OW_idxS und_ints s_int rfl rfl _ rfl (by omega) ?_ | refine OW_load1 s_int rfl _ (by assumption) ?_ | (refine OW_isLoad ?_; refine OW_loadBk (by first | with_reducible exact one_u8 | with_reducible exact one_bytes | with_reducible exact one_bool | with_reducible exact one_int | with_reducible exact one_errno | with_reducible exact one_u32 | with_reducible exact one_u64 | with_reducible exact one_string) rfl (by apply_assumption; assumption) _ (by first | assumption | rfl) ?_) | refine OW_load1 (by first | with_reducible exact one_u8 | with_reducible exact one_bytes | with_reducible exact one_bool | with_reducible exact one_int | with_reducible exact one_errno | with_reducible exact one_u32 | with_reducible exact one_u64 | with_reducible exact one_string) rfl _ (by apply_assumption; assumption) ?_)
         refine OW_nil ?_
         exact stay_mk _ _ _ _)
    | refine OY_ppass rfl rfl ?_
    | refine OY_qpass rfl rfl ?_
    | (apply OY_ptake _ rfl rfl
       · intro wd
         (first | refine OW_sliceP h_slp_Tag rfl ?_ | refine OW_moveV (.int _ _) rfl ?_ | refine OW_moveV (.slice _ _ _) rfl ?_ | refine OW_moveV (.bool _) rfl ?_ | refine OW_moveV (.pointer _) rfl ?_ | refine OW_moveV (.string _) rfl ?_ | refine OW_moveV (.agg _) rfl ?_ | refine OW_moveV (.tuple _) rfl ?_ | refine OW_nil ?_ | refine thenE_normal ?_ | refine CW_seq ?_ | refine CW_region (by kernel_rfl) ?_ | refine OW_assignV (.int _ _) rfl ?_ | refine OW_assignV (.slice _ _ _) rfl ?_ | refine OW_assignV (.bool _) rfl ?_ | refine OW_assignV (.pointer _) rfl ?_ | refine OW_assignV (.string _) rfl ?_ | refine OW_assignV (.agg _) rfl ?_ | refine OW_assignV (.tuple _) rfl ?_ | refine OW_addI rfl rfl (by omega) ?_ | refine OW_subI rfl rfl (by omega) ?_ | refine OW_mulI rfl rfl (by omega) ?_ | refine OW_lss rfl rfl ?_ | refine OW_extract rfl rfl ?_ | refine OW_gtr rfl rfl ?_ | refine OW_leq rfl rfl ?_ | refine OW_geq rfl rfl ?_ | refine OW_eql rfl rfl ?_ | refine OW_neq rfl rfl ?_ | refine OW_not rfl ?_ | refine OW_pickT rfl _ rfl ?_ | refine OW_pickF rfl (.bool _) rfl ?_ | refine OW_pickB rfl rfl rfl ?_ | refine OW_move ?_ | refine OW_assign ?_ | refine OW_pass rfl ?_ | refine OW_take rfl ?_ | refine OW_lenS (by first | with_reducible exact und_bytes | with_reducible exact und_bytess) rfl ?_ | refine OW_convInt (by first | with_reducible exact und_u8 | with_reducible exact und_u64 | with_reducible exact und_int | with_reducible exact und_u32) (by first | with_reducible exact und_u8 | with_reducible exact und_u64 | with_reducible exact und_int | with_reducible exact und_u32) rfl ?_ | refine OW_add rfl rfl ?_ | refine OW_sub rfl rfl ?_ | refine OW_mul rfl rfl ?_ | refine OW_min2 rfl rfl ?_ | refine OW_max2 rfl rfl ?_ | refine OW_neg rfl ?_ | refine CW_block ?_ | refine CW_condT rfl ?_ | refine CW_condF rfl ?_ | refine CW_exit ?_ | refine CW_ret ?_ | refine CW_skip ?_ | refine LW_seq ?_ | refine LW_regC ?_ | refine LW_condC ?_ | refine LW_regF ?_ | refine LW_condF ?_ | refine FW_seq ?_ | refine FW_region (by kernel_rfl) ?_ | refine FW_block ?_ | refine FW_condT rfl ?_ | refine FW_condF rfl ?_ | refine FW_exit ?_ | refine FW_ret ?_ | refine FW_skip ?_ | refine LW_ret ?_ | refine LW_skip ?_ | refine thenE_exit ?_ | refine thenE_ret ?_ | refine inBlockE_normal ?_ | refine inBlockE_same ?_ | refine inBlockE_ret ?_ | refine inBlockE_ne (by rfl) ?_ | refine OW_eqlB (by with_reducible exact und_bool) rfl rfl ?_ | refine OW_neqB (by with_reducible exact und_bool) rfl rfl ?_ | refine OW_idxS (by with_reducible exact und_bytes) one_u8 rfl rfl _ rfl (by omega) ?_ | refine OW_idxS (by with_reducible exact und_bytess) one_bytes rfl rfl _ rfl (by omega) ?_ | refine OW_load1 (by first | with_reducible exact one_u8 | with_reducible exact one_bytes) rfl _ (by assumption) ?_ | refine OW_lenS und_ints rfl ?_ | refine OW_idxS und_ints s_int rfl rfl _ rfl (by omega) ?_ | refine OW_load1 s_int rfl _ (by assumption) ?_)
         refine OW_nil ?_
         exact stay_mk _ _ _ _)
    | (apply OY_qtake _ rfl rfl
       · intro wd hwd
         (first | refine OW_sliceP h_slp_Tag rfl ?_ | refine OW_moveV (.int _ _) rfl ?_ | refine OW_moveV (.slice _ _ _) rfl ?_ | refine OW_moveV (.bool _) rfl ?_ | refine OW_moveV (.pointer _) rfl ?_ | refine OW_moveV (.string _) rfl ?_ | refine OW_moveV (.agg _) rfl ?_ | refine OW_moveV (.tuple _) rfl ?_ | refine OW_nil ?_ | refine thenE_normal ?_ | refine CW_seq ?_ | refine CW_region (by kernel_rfl) ?_ | refine OW_assignV (.int _ _) rfl ?_ | refine OW_assignV (.slice _ _ _) rfl ?_ | refine OW_assignV (.bool _) rfl ?_ | refine OW_assignV (.pointer _) rfl ?_ | refine OW_assignV (.string _) rfl ?_ | refine OW_assignV (.agg _) rfl ?_ | refine OW_assignV (.tuple _) rfl ?_ | refine OW_addI rfl rfl (by omega) ?_ | refine OW_subI rfl rfl (by omega) ?_ | refine OW_mulI rfl rfl (by omega) ?_ | refine OW_lss rfl rfl ?_ | refine OW_extract rfl rfl ?_ | refine OW_gtr rfl rfl ?_ | refine OW_leq rfl rfl ?_ | refine OW_geq rfl rfl ?_ | refine OW_eql rfl rfl ?_ | refine OW_neq rfl rfl ?_ | refine OW_not rfl ?_ | refine OW_pickT rfl _ rfl ?_ | refine OW_pickF rfl (.bool _) rfl ?_ | refine OW_pickB rfl rfl rfl ?_ | refine OW_move ?_ | refine OW_assign ?_ | refine OW_pass rfl ?_ | refine OW_take rfl ?_ | refine OW_lenS (by first | with_reducible exact und_bytes | with_reducible exact und_bytess) rfl ?_ | refine OW_convInt (by first | with_reducible exact und_u8 | with_reducible exact und_u64 | with_reducible exact und_int | with_reducible exact und_u32) (by first | with_reducible exact und_u8 | with_reducible exact und_u64 | with_reducible exact und_int | with_reducible exact und_u32) rfl ?_ | refine OW_add rfl rfl ?_ | refine OW_sub rfl rfl ?_ | refine OW_mul rfl rfl ?_ | refine OW_min2 rfl rfl ?_ | refine OW_max2 rfl rfl ?_ | refine OW_neg rfl ?_ | refine CW_block ?_ | refine CW_condT rfl ?_ | refine CW_condF rfl ?_ | refine CW_exit ?_ | refine CW_ret ?_ | refine CW_skip ?_ | refine LW_seq ?_ | refine LW_regC ?_ | refine LW_condC ?_ | refine LW_regF ?_ | refine LW_condF ?_ | refine FW_seq ?_ | refine FW_region (by kernel_rfl) ?_ | refine FW_block ?_ | refine FW_condT rfl ?_ | refine FW_condF rfl ?_ | refine FW_exit ?_ | refine FW_ret ?_ | refine FW_skip ?_ | refine LW_ret ?_ | refine LW_skip ?_ | refine thenE_exit ?_ | refine thenE_ret ?_ | refine inBlockE_normal ?_ | refine inBlockE_same ?_ | refine inBlockE_ret ?_ | refine inBlockE_ne (by rfl) ?_ | refine OW_eqlB (by with_reducible exact und_bool) rfl rfl ?_ | refine OW_neqB (by with_reducible exact und_bool) rfl rfl ?_ | refine OW_idxS (by with_reducible exact und_bytes) one_u8 rfl rfl _ rfl (by omega) ?_ | refine OW_idxS (by with_reducible exact und_bytess) one_bytes rfl rfl _ rfl (by omega) ?_ | refine OW_load1 (by first | with_reducible exact one_u8 | with_reducible exact one_bytes) rfl _ (by assumption) ?_ | refine OW_lenS und_ints rfl ?_ | refine OW_idxS und_ints s_int rfl rfl _ rfl (by omega) ?_ | refine OW_load1 s_int rfl _ (by assumption) ?_ | (refine OW_isLoad ?_; refine OW_loadBk (by first | with_reducible exact one_u8 | with_reducible exact one_bytes | with_reducible exact one_bool | with_reducible exact one_int | with_reducible exact one_errno | with_reducible exact one_u32 | with_reducible exact one_u64 | with_reducible exact one_string) rfl (by apply_assumption; assumption) _ (by first | assumption | rfl) ?_) | refine OW_load1 (by first | with_reducible exact one_u8 | with_reducible exact one_bytes | with_reducible exact one_bool | with_reducible exact one_int | with_reducible exact one_errno | with_reducible exact one_u32 | with_reducible exact one_u64 | with_reducible exact one_string) rfl _ (by apply_assumption; assumption) ?_)
         refine OW_nil ?_
         exact stay_mk _ _ _ _)
    | refine OY_a (actY_of rfl ?_)
    | refine OY_d (actY_of rfl ?_)
    | refine OY_a (actY_pass rfl rfl ?_)
    | refine OY_d (actY_pass rfl rfl ?_)
    | refine OY_a (actY_take rfl rfl ?_)
    | refine OY_d (actY_take rfl rfl ?_))
  exact hEnd.out) (k : B) : A := h ⟨k⟩
set_option maxHeartbeats 8000000 in
theorem hsame_any (w : World) (a b : List UInt8) (ha : a.length = 32) (hb : b.length = 32) :
    Calls Try.prog 60 #[.agg (a.map bv).toArray, .agg (b.map bv).toArray] w (RetV w (.bool (a == b))) := by
  refine calls_of_CW Try.func60 rfl (by simp [Try.ntmps60]) ?_
  rw [Try.ntmps60]
  refine go_Hm4 (k := ?_)
  refine OW_box _ rfl ?_
  intro w1 g1 hb1 hg1 hl1 hx1
  replace hb1 : Blk w1 g1 29 (a.map bv).toArray := hb1
  refine go_Hm4 (k := ?_)
  refine OW_box _ rfl ?_
  intro w2 g2 hb2 hg2 hl2 hx2
  replace hb2 : Blk w2 g2 29 (b.map bv).toArray := hb2
  have hx := hx1.trans' hx2
  refine go_Hm4 (k := ?_)
  obtain ⟨C, hC⟩ : ∃ C : World → Prop, C = fun v => Ext w2 v := ⟨_, rfl⟩
  refine CW_tree2 [] (.p 0 (.p 1 (.d 2 (.p 3 .done)))) (C) (by kernel_rfl) (by kernel_rfl) (by kernel_rfl) ?_ ?_
  · exact inE hC
  intro w3 hx3 h_C
  refine oy_Hm4 (k := ?_)
  refine OW_callV Try.func21 (by kernel_rfl) rfl (same_any w3 (some ⟨g1, 0, none⟩) (some ⟨g2, 0, none⟩) a b 32 32 ((bs_row hb1).ext (hx2.trans' hx3)) ((bs_row hb2).ext hx3) (by omega) (by omega)) (by rw [ha, hb]; rfl) ?_
  intro w4 hx4
  first | refine OW_nil (goY_mkE hC (hx3.trans' hx4) ?_) | refine OW_nil (goY_dropE hC (hx3.trans' hx4) ?_)
  refine oy_Hm4 (k := ?_)
  refine go_Hm4 (k := ?_)
  exact bodyE_ret1 rfl (.bool (a == b)) rfl ⟨rfl, (hx.trans' hx3).trans' hx4⟩
set_option maxHeartbeats 8000000 in
theorem hderive_any (w : World) (A : Option Addr) (cA : Nat) (key : List UInt8) (ha : Bs w A key) (hca : key.length ≤ cA) (hla : key.length ≤ 90000) (s : ByteArray) (hs : s.data.toList.length ≤ 1000) (L : Option Addr) (cL : Nat) (l : List Int) (hL : Is w L l) (hll : l.length ≤ 1000) :
    Calls Try.prog 22 #[.slice A key.length cA, .string s, .slice L l.length cL] w (RetBs 29 w (hmacL key (formB s l))) := by
  have hfl : ∀ k, (formB s (l.take k)).length ≤ 10000 := fun k => by rw [formB_length, List.length_take]; omega
  refine calls_of_CW Try.func22 rfl (by simp [Try.ntmps22]) ?_
  rw [Try.ntmps22]
  refine go_Hm4 (k := ?_)
  refine OW_bytesOf s und_string und_bytes und_u8 rfl ?_
  intro w1 A1 c1 hb1 hA1 hx1
  refine go_Hm4 (k := ?_)
  refine OW_lit [bv 0] und_bytes info_u8 rfl rfl (by simp [bv, Value.oneCell']) (by decide) ?_
  intro w2 g2 hb2 hg2 hx2
  refine go_Hm4 (k := ?_)
  refine OW_lit [.slice A1 s.data.toList.length c1, .slice (some ⟨g2, 0, none⟩) 1 1] und_bytess info_bytes rfl rfl (by simp [Value.oneCell']) (by decide) ?_
  intro w3 g3 hb3 hg3 hx3
  have hcat := cat_lit2 (c := 2) hb3 (hb1.ext (hx2.trans' hx3)) rfl ((bs_lit [0] _ hb2 rfl).ext hx3) rfl (show s.data.toList.length + 1 ≤ 1000000 by omega)
  rw [show s.data.toList ++ ([0] : List UInt8) = formB s (l.take 0) by simp [formB, numsB]] at hcat
  refine go_Hm4 (k := ?_)
  refine OW_callBs Try.func20 (by kernel_rfl) rfl hcat rfl ?_
  intro w4 A4 c4 hf4
  have hx04 := ((hx1.trans' hx2).trans' hx3).trans' hf4.ext
  refine go_Hm4 (k := ?_)
  refine CW_meetB (fun e' w' => e' 0 = .slice A key.length cA ∧ ∃ B cB, e' 7 = .slice B (formB s l).length cB ∧ Bs w' B (formB s l) ∧ Ext w w') ?_ ?_
  · refine CW_loop (fun e' w' => ∃ (k : Nat) (B : Option Addr) (cB : Nat), k ≤ l.length ∧ e' 0 = .slice A key.length cA ∧ e' 7 = .slice B (formB s (l.take k)).length cB ∧ e' 16 = .slice L l.length cL ∧ e' 17 = .int .i64 l.length ∧ e' 18 = .int .i64 k ∧ Bs w' B (formB s (l.take k)) ∧ Ext w w') (fun e' _ => l.length - (intOf (e' 18)).toNat) ?_ ?_
    · exact ⟨0, A4, c4, by omega, rfl, rfl, rfl, rfl, rfl, hf4.bs, hx04⟩
    rintro e' w' ⟨k, B, cB, hk, q0, q7, q16, q17, q18, hB, hx⟩
    rw [upd_self q0, upd_self q7, upd_self q16, upd_self q17, upd_self q18]
    have hfk := hfl k
    refine go_Hm4 (k := ?_)
    refine CW_cond _ rfl (fun h => ?_) (fun h => ?_)
    · have hlt : k < l.length := by simpa using h
      obtain ⟨ad, rfl, hcell⟩ := (hL.ext hx).at_ hlt
      refine go_Hm4 (k := ?_)
      rw [wrap_u64I]
      refine OW_callBs Try.func65 (by kernel_rfl) rfl (put64_any w' (u64N l[k]) (u64N_lt _)) rfl ?_
      intro w5 A5 c5 hf5
      have hp8 := putL_length (u64N l[k]) 8
      refine go_Hm4 (k := ?_)
      refine OW_lit [.slice B (formB s (l.take k)).length cB, .slice A5 (putL (u64N l[k]) 8).length c5] und_bytess info_bytes rfl rfl (by simp [Value.oneCell']) (by decide) ?_
      intro w6 g6 hb6 hg6 hx6
      have hcat := cat_lit2 (c := 2) hb6 (hB.ext (hf5.ext.trans' hx6)) rfl (hf5.bs.ext hx6) rfl (by omega)
      rw [← formB_take hlt] at hcat
      refine go_Hm4 (k := ?_)
      refine OW_callBs Try.func20 (by kernel_rfl) rfl hcat rfl ?_
      intro w7 A7 c7 hf7
      refine go_Hm4 (k := ?_)
      refine ⟨⟨k + 1, A7, c7, hlt, rfl, rfl, rfl, rfl, rfl, hf7.bs, ((hx.trans' hf5.ext).trans' hx6).trans' hf7.ext⟩, ?_⟩
      show l.length - ((k : Int) + 1).toNat < l.length - (k : Int).toNat
      omega
    · have hge : k = l.length := by simp at h; omega
      subst hge
      rw [List.take_length] at hB ⊢
      refine go_Hm4 (k := ?_)
      exact ⟨rfl, rfl, B, cB, rfl, hB, hx⟩
  rintro e' w5 ⟨q0, B, cB, q7, hB, hx⟩
  rw [upd_self q0, upd_self q7]
  have hfk := hfl l.length
  rw [List.take_length] at hfk
  generalize formB s l = F at *
  refine go_Hm4 (k := ?_)
  refine OW_callV Try.func18 (by kernel_rfl) rfl (hmacSum_any w5 A B cA cB key F (ha.ext hx) hca (by omega) hB (by omega)) rfl ?_
  intro w6 hx6
  refine go_Hm4 (k := ?_)
  refine OW_allocA s_agg_Tag ?_
  intro w7 g7 hb7 hg7 hl7 hx7
  have hol := hmacL_length key F
  generalize hmacL key F = out at *
  have holen : (out.map bv).length = 32 := by rw [List.length_map, hol]
  refine go_Hm4 (k := ?_)
  refine OW_storeA s_agg_Tag rfl (out.map bv) rfl holen hb7 rfl (bv_one _) ?_
  intro w8 hb8 hgr8
  have hx06 := hx.trans' hx6
  refine go_Hm4 (k := ?_)
  refine bodyE_ret1 rfl (.slice (some ⟨g7, 0, none⟩) 32 32) rfl ⟨some ⟨g7, 0, none⟩, 32, by rw [hol], ?_, below_only (hx06.trans' hx7) hgr8 (by have := hx06.size; omega) (hx06.trans' hx7).size⟩
  rw [hol]
  exact own_of_blk (by have := hx06.size; omega) hb8 (by simpa using holen) (Nat.le_refl _) (by decide) (by rw [List.take_of_length_le (by simp; omega)])
end Go.Proofs.Ytdpcahfgdpikfaa

/- Rows of elements of many cells: read, appended, turned. No program in sight. -/
namespace Go.Proofs.Ytdpcahfgdpikfaa
open Go Go.RowKit
set_option linter.unusedVariables false
theorem flat_at {k : Nat} : ∀ {xs : List (List Value)}, (∀ x ∈ xs, x.length = k) → ∀ (i : Nat) (hi : i < xs.length) (j : Nat), j < k → xs.flatten[i * k + j]? = (xs[i])[j]?
  | [], _, i, hi, _, _ => by simp at hi
  | x :: xs, h, 0, _, j, hj => by
    have hx : x.length = k := h x (by simp)
    rw [List.flatten_cons, Nat.zero_mul, Nat.zero_add, List.getElem?_append_left (by omega)]
    rfl
  | x :: xs, h, i + 1, hi, j, hj => by
    have hx : x.length = k := h x (by simp)
    have ih := flat_at (xs := xs) (fun y hy => h y (by simp [hy])) i (by simpa using hi) j hj
    rw [List.flatten_cons, List.getElem?_append_right (by rw [hx, Nat.succ_mul]; omega), hx, show (i + 1) * k + j - k = i * k + j by rw [Nat.succ_mul]; omega, ih]
    rfl
theorem flat_len {k : Nat} : ∀ {xs : List (List Value)}, (∀ x ∈ xs, x.length = k) → xs.flatten.length = xs.length * k
  | [], _ => by simp
  | x :: xs, h => by
    have hx : x.length = k := h x (by simp)
    rw [List.flatten_cons, List.length_append, flat_len (fun y hy => h y (by simp [hy])), hx, List.length_cons, Nat.succ_mul]; omega
theorem flat_take {k : Nat} : ∀ {xs : List (List Value)} (i : Nat), (∀ x ∈ xs, x.length = k) → xs.flatten.take (i * k) = (xs.take i).flatten
  | _, 0, _ => by simp
  | [], i + 1, _ => by simp
  | x :: xs, i + 1, h => by
    have hx : x.length = k := h x (by simp)
    rw [List.flatten_cons, List.take_append, List.take_of_length_le (by rw [hx, Nat.succ_mul]; omega), hx, show (i + 1) * k - k = i * k by rw [Nat.succ_mul]; omega, flat_take i (fun y hy => h y (by simp [hy]))]
    simp
theorem flat_drop {k : Nat} : ∀ {xs : List (List Value)} (i : Nat), (∀ x ∈ xs, x.length = k) → xs.flatten.drop (i * k) = (xs.drop i).flatten
  | _, 0, _ => by simp
  | [], i + 1, _ => by simp
  | x :: xs, i + 1, h => by
    have hx : x.length = k := h x (by simp)
    rw [List.flatten_cons, List.drop_append, List.drop_of_length_le (by rw [hx, Nat.succ_mul]; omega), hx, show (i + 1) * k - k = i * k by rw [Nat.succ_mul]; omega, flat_drop i (fun y hy => h y (by simp [hy]))]
    simp
theorem flat_set {k : Nat} : ∀ {xs : List (List Value)} (i : Nat) (hi : i < xs.length) (j : Nat) (v : Value), (∀ x ∈ xs, x.length = k) → j < k → xs.flatten.set (i * k + j) v = (xs.set i ((xs[i]).set j v)).flatten
  | [], i, hi, _, _, _, _ => by simp at hi
  | x :: xs, 0, _, j, v, h, hj => by
    have hx : x.length = k := h x (by simp)
    rw [Nat.zero_mul, Nat.zero_add, List.flatten_cons, List.set_append_left _ _ (by omega)]
    simp
  | x :: xs, i + 1, hi, j, v, h, hj => by
    have hx : x.length = k := h x (by simp)
    have hi' : i < xs.length := by simpa using hi
    rw [List.flatten_cons, List.set_append_right _ _ (by rw [hx, Nat.succ_mul]; omega), hx, show (i + 1) * k + j - k = i * k + j by rw [Nat.succ_mul]; omega, flat_set i hi' j v (fun y hy => h y (by simp [hy])) hj]
    simp
/-- A row of elements of k cells. -/
structure RdN (w : World) (A : Option Addr) (k : Nat) (xs : List (List Value)) : Prop where
  rd : Rd w A xs.flatten
  len : ∀ x ∈ xs, x.length = k
theorem RdN.ext {w w' : World} {A : Option Addr} {k : Nat} {xs : List (List Value)} (h : RdN w A k xs) (hx : Ext w w') : RdN w' A k xs := ⟨h.rd.ext hx, h.len⟩
theorem RdN.keeps {w w' : World} {S : Nat → Prop} {A : Option Addr} {k : Nat} {xs : List (List Value)} (h : RdN w A k xs) (hk : Keeps w w' S) (hn : ∀ ad, A = some ad → ¬ S ad.block) : RdN w' A k xs := ⟨h.rd.keeps hk hn, h.len⟩
theorem RdN.nil (w : World) (A : Option Addr) (k : Nat) : RdN w A k [] := ⟨fun j u hu => by simp at hu, fun x hx => by simp at hx⟩
theorem RdN.at_ {w : World} {A : Option Addr} {k : Nat} {xs : List (List Value)} (h : RdN w A k xs) (hk : 0 < k) {i : Nat} (hi : i < xs.length) : ∃ ad, A = some ad ∧ At w (ad.add (i * k)) xs[i] := by
  have hl : ∀ j, j < k → ∃ ad, A = some ad ∧ ∀ u, (xs[i])[j]? = some u → w.cell? (ad.add (i * k + j)) = some u := fun j hj => by
    have hf := flat_at h.len i hi j hj
    have hxl : (xs[i]).length = k := h.len _ (List.getElem_mem hi)
    obtain ⟨ad, ha, hc⟩ := h.rd (i * k + j) ((xs[i])[j]'(by omega)) (by rw [hf, List.getElem?_eq_getElem])
    exact ⟨ad, ha, fun u hu => by rw [hc]; rw [List.getElem?_eq_getElem (by omega)] at hu; exact hu⟩
  obtain ⟨ad, ha, _⟩ := hl 0 hk
  refine ⟨ad, ha, fun j u hu => ?_⟩
  have hxl : (xs[i]).length = k := h.len _ (List.getElem_mem hi)
  have hj : j < k := by have := (List.getElem?_eq_some_iff.1 hu).1; omega
  obtain ⟨ad', ha', hc⟩ := hl j hj
  rw [ha] at ha'
  cases ha'
  rw [Addr.add_add]
  exact hc u hu
theorem RdN.take {w : World} {A : Option Addr} {k : Nat} {xs : List (List Value)} (h : RdN w A k xs) (n : Nat) : RdN w A k (xs.take n) :=
  ⟨fun j u hu => h.rd j u (by
    rw [← flat_take n h.len] at hu
    have hj := (List.getElem?_eq_some_iff.1 hu).1
    rw [List.length_take] at hj
    rw [List.getElem?_take_of_lt (by omega)] at hu
    exact hu), fun x hx => h.len x (List.mem_of_mem_take hx)⟩
theorem slr_rdN {α : Type} {k : Nat} {R : World → List Value → α → Prop} {w : World} {A : Option Addr} {l : List α} (f : α → List Value) (hk : 0 < k) (hR : ∀ cs a, R w cs a → cs = f a) (h : SlR k R w A l) : RdN w A k (l.map f) := by
  have hlen : ∀ x ∈ l.map f, x.length = k := fun x hx => by
    obtain ⟨a, ha, rfl⟩ := List.mem_map.1 hx
    obtain ⟨i, hi, rfl⟩ := List.mem_iff_getElem.1 ha
    obtain ⟨ad, ce, e1, e2, e3, e4⟩ := h i hi
    rw [← hR _ _ e4]; exact e2
  refine ⟨fun j u hu => ?_, hlen⟩
  have hj := (List.getElem?_eq_some_iff.1 hu).1
  rw [flat_len hlen, List.length_map] at hj
  have hi : j / k < l.length := by rw [Nat.div_lt_iff_lt_mul hk]; exact hj
  obtain ⟨ad, ce, e1, e2, e3, e4⟩ := h (j / k) hi
  refine ⟨ad, e1, ?_⟩
  have hm : j % k < k := Nat.mod_lt _ hk
  have hjd : j / k * k + j % k = j := by rw [Nat.mul_comm]; exact Nat.div_add_mod j k
  have hf := flat_at hlen (j / k) (by simpa using hi) (j % k) hm
  rw [hjd, hu] at hf
  have := e3 (j % k) u (by rw [hR _ _ e4]; simpa using hf.symm)
  rw [Addr.add_add, hjd] at this
  exact this
section
variable {w w' : World} {base : Nat} {T : TypeId} {k : Nat} {A : Option Addr} {v : Value} {n c : Nat} {xs : List Value}
theorem ownN_rd (h : w.ownsRow base T k (.slice A n c) n xs) : Rd w A xs := by
  intro j u hu
  rcases h.2 with ⟨h', h0⟩ | ⟨g, cap, cur, hv, _⟩
  · subst h0
    have := h.1
    rw [Nat.zero_mul] at this
    have hj := (List.getElem?_eq_some_iff.1 hu).1
    omega
  · injection hv with hA
    subst hA
    exact ⟨_, rfl, h.cells (g := g) rfl j u hu⟩
theorem ownN_ext (h : w.ownsRow base T k v n xs) (he : Ext w w') : w'.ownsRow base T k v n xs := by
  refine ⟨h.1, ?_⟩
  rcases h.2 with hl | ⟨g, cap, cur, hv, hb, hg, hr⟩
  · exact .inl hl
  · exact .inr ⟨g, cap, cur, hv, hb, (Blk.ext (t := T) hg he), hr⟩
theorem ownN_keeps {S : Nat → Prop} (h : w.ownsRow base T k (.slice A n c) n xs) (hk : Keeps w w' S) (hn : ∀ ad, A = some ad → ¬ S ad.block) : w'.ownsRow base T k (.slice A n c) n xs := by
  refine ⟨h.1, ?_⟩
  rcases h.2 with hl | ⟨g, cap, cur, hv, hb, hg, hr⟩
  · exact .inl hl
  · refine .inr ⟨g, cap, cur, hv, hb, ?_, hr⟩
    have hA : A = some ⟨g, 0, none⟩ := by injection hv
    exact Blk.keeps (t := T) hg hk (hn _ hA)
theorem ownN_mono {base' : Nat} (h : w.ownsRow base T k v n xs) (hb : base' ≤ base) : w.ownsRow base' T k v n xs := by
  refine ⟨h.1, ?_⟩
  rcases h.2 with hl | ⟨g, cap, cur, hv, hg, hr⟩
  · exact .inl hl
  · exact .inr ⟨g, cap, cur, hv, Nat.le_trans hb hg, hr⟩
theorem ownN_block (h : w.ownsRow base T k (.slice A n c) n xs) : ∀ ad, A = some ad → base ≤ ad.block ∧ ad.block < w.heap.size := by
  intro ad ha
  subst ha
  exact h.lt ad.block rfl
theorem ownN_cap (h : w.ownsRow base T k (.slice A n c) n xs) : n ≤ c ∧ c ≤ maxLen := by
  rcases h.2 with ⟨h', h0⟩ | ⟨g, cap, cur, hv, _, _, hn, hm, _⟩
  · injection h' with _ _ hc
    subst h0; subst hc
    exact ⟨Nat.le_refl _, by unfold maxLen; omega⟩
  · injection hv with _ _ hc
    subst hc
    exact ⟨hn, hm⟩
theorem ownN_blk (h : w.ownsRow base T k (.slice A n c) n xs) (hn : A ≠ none) :
    ∃ g cur, A = some ⟨g, 0, none⟩ ∧ base ≤ g ∧ Blk w g T cur ∧ cur.size = c * k ∧ n ≤ c ∧ c ≤ maxLen ∧ cur.toList.take (n * k) = xs := by
  rcases h.2 with ⟨h', h0⟩ | ⟨g, cap, cur, hv, hb, hg, hnc, hm, hs, ht⟩
  · injection h' with hA
    exact absurd hA hn
  · injection hv with hA _ hc
    subst hA; subst hc
    exact ⟨g, cur, rfl, hb, hg, hs, hnc, hm, ht⟩
theorem ownN_of_blk {g : Nat} {cur : Array Value} (hb : base ≤ g) (hg : Blk w g T cur) (hc : cur.size = c * k) (hn : n ≤ c) (hm : c ≤ maxLen) (ht : cur.toList.take (n * k) = xs) : w.ownsRow base T k (.slice (some ⟨g, 0, none⟩) n c) n xs := by
  refine ⟨?_, .inr ⟨g, c, cur, rfl, hb, hg, hn, hm, hc, ht⟩⟩
  rw [← ht, List.length_take]
  simp only [Array.length_toList, hc]
  exact Nat.min_eq_left (Nat.mul_le_mul_right k hn)
theorem ownN_set {g i : Nat} (ho : w.ownsRow base T k (.slice (some ⟨g, 0, none⟩) n c) n xs) (u : Value) :
    (w.setCell ⟨g, i, none⟩ u).ownsRow base T k (.slice (some ⟨g, 0, none⟩) n c) n (xs.set i u) ∧ w.grownBy (w.setCell ⟨g, i, none⟩ u) (some g) := ho.stored i u
end
section
variable {P : Program} {ops : Array Oper} {Q : Exit → (Nat → Value) → World → Prop} {rest : List Oper} {e : Nat → Value} {w : World} {d : Tmp} {ty : TypeId} {pos : String} {aft : Array Edge}
/-- append onto a row of the call's own; elements of k cells. -/
theorem OW_appendN {x y : Operand} {t el : TypeId} {z : Value} {b k : Nat} {base : Nat} {A A' : Option Addr} {n c m c' : Nat} {xs news : List Value} (ht : P.underlying t = some (.slice el)) (hinfo : (P.info? el).map (fun i => (i.zero, i.size, i.bytes)) = some (some z, k, b)) (hz : z.cells.size = k) (hk : 0 < k)
    (hx : ev e x = .slice A n c) (hy : ev e y = .slice A' m c') (hown : w.ownsRow base el k (.slice A n c) n xs) (hrd : Rd w A' news) (hl : news.length = m * k) (h1 : ∀ u ∈ news, u.oneCell' = true)
    (hm : n + m ≤ maxLen) (hb : (n + m) * b ≤ 140737488355328) (hbase : base ≤ w.heap.size)
    (h : ∀ w' A2 c2, w'.ownsRow base el k (.slice A2 (n + m) c2) (n + m) (xs ++ news) → w.grownBy w' (Value.ownBlock (.slice A n c)) → (Value.ownBlock (.slice A2 (n + m) c2) = Value.ownBlock (.slice A n c) ∨ Value.ownBlock (.slice A2 (n + m) c2) = some w.heap.size) → OW P ops Q rest (upd e d (.slice A2 (n + m) c2)) w') :
    OW P ops Q (⟨some d, .call { callee := .builtin .append, args := #[x, y], argTypes := #[t, t] }, ty, pos, aft, none⟩ :: rest) e w := by
  obtain ⟨i0, hi, hz1, h2, h3⟩ := info_parts hinfo
  have step : ∃ v' w', (Builtin.append_ #[t, t] ty #[.slice A n c, .slice A' m c']).run P w = .ok v' w' ∧ w'.ownsRow base el k v' (n + m) (xs ++ news) ∧ w.grownBy w' (Value.ownBlock (.slice A n c)) ∧ (v'.ownBlock = Value.ownBlock (.slice A n c) ∨ v'.ownBlock = some w.heap.size) := by
    cases A' with
    | none =>
      have hn0 : news = [] := by
        cases news with
        | nil => rfl
        | cons u r => obtain ⟨ad, ha, _⟩ := hrd 0 u rfl; cases ha
      subst hn0
      have hm0 : m = 0 := by
        cases m with
        | zero => rfl
        | succ m => rw [Nat.succ_mul] at hl; simp at hl; omega
      subst hm0
      refine ⟨.slice A n c, w, ?_, by simpa using hown, World.grownBy.refl w _, .inl rfl⟩
      rcases hown.2 with ⟨h', h0⟩ | ⟨g, cap, cur, hv, _, _, hnc, _⟩
      · injection h' with hA _ hc
        subst hA; subst h0; subst hc
        simp [Builtin.append_, run_underlying ht, sizeOf, typeInfo, hi, Builtin.lenOf, Builtin.firstCells]
      · injection hv with hA _ hc
        subst hA; subst hc
        simp [Builtin.append_, run_underlying ht, sizeOf, typeInfo, hi, Builtin.lenOf, Builtin.firstCells, hnc, storeCells]
    | some ad =>
      obtain ⟨v', w', hrun, g1, g2, _, g3⟩ := run_append_own_at (P := P) w base t ty el i0 z k b ht hi hz1 h2 h3 hz hk (.slice A n c) n xs hown ad m c' news hl
        (fun j u hu => by obtain ⟨ad', ha, hc⟩ := hrd j u hu; cases ha; exact hc) h1 hm hb hbase
      exact ⟨v', w', hrun, g1, g2, g3⟩
  obtain ⟨v', w', hrun, g1, g2, g3⟩ := step
  have hform : ∃ A2 c2, v' = .slice A2 (n + m) c2 := by
    rcases g1.2 with ⟨h', h0⟩ | ⟨g, cap, cur, hv, _⟩
    · exact ⟨none, 0, by rw [h', h0]⟩
    · exact ⟨_, _, hv⟩
  obtain ⟨A2, c2, rfl⟩ := hform
  refine OW_valw (.slice A2 (n + m) c2) w' rfl ?_ (h w' A2 c2 g1 g2 g3)
  simp [execOp, resolve, invoke, builtin, hx, hy, hrun]
/-- append that finds no room: a new row. -/
theorem OW_appendGN {x y : Operand} {t el : TypeId} {z : Value} {b k : Nat} {A A' : Option Addr} {n c m c' : Nat} {xs news : List Value} (ht : P.underlying t = some (.slice el)) (hinfo : (P.info? el).map (fun i => (i.zero, i.size, i.bytes)) = some (some z, k, b)) (hz : z.cells.size = k) (hk : 0 < k)
    (hx : ev e x = .slice A n c) (hy : ev e y = .slice A' m c') (hA : A = none → n = 0 ∧ c = 0) (hrx : Rd w A xs) (hlx : xs.length = n * k) (hrd : Rd w A' news) (hl : news.length = m * k) (hm0 : 0 < m) (hg : c < n + m) (hm : n + m ≤ maxLen) (hb : (n + m) * b ≤ 140737488355328)
    (h : ∀ w' g c2, w'.ownsRow w.heap.size el k (.slice (some ⟨g, 0, none⟩) (n + m) c2) (n + m) (xs ++ news) → w.heap.size ≤ g → g < w'.heap.size → Ext w w' → OW P ops Q rest (upd e d (.slice (some ⟨g, 0, none⟩) (n + m) c2)) w') :
    OW P ops Q (⟨some d, .call { callee := .builtin .append, args := #[x, y], argTypes := #[t, t] }, ty, pos, aft, none⟩ :: rest) e w := by
  obtain ⟨i0, hi, hz1, h2, h3⟩ := info_parts hinfo
  obtain ⟨ad', rfl⟩ : ∃ ad', A' = some ad' := by
    have h0 : 0 < news.length := by rw [hl]; exact Nat.mul_pos hm0 hk
    obtain ⟨ad, ha, _⟩ := hrd 0 news[0] (by simp [h0])
    exact ⟨ad, ha⟩
  have hnews : ∀ j u, news[j]? = some u → w.cell? (ad'.add j) = some u := fun j v hj => by obtain ⟨a, ha, hc⟩ := hrd j v hj; cases ha; exact hc
  have hrun : (Builtin.append_ #[t, t] ty #[.slice A n c, .slice (some ad') m c']).run P w = .ok (.slice (some ⟨w.heap.size, 0, none⟩) (n + m) (grownCap w (n + m) c el)) (w.drew.alloc (.cells (xs.toArray ++ news.toArray ++ Builtin.zeroCells z.cells (grownCap w (n + m) c el - (n + m))) el)) := by
    cases A with
    | none =>
      obtain ⟨rfl, rfl⟩ := hA rfl
      have hx0 : xs = [] := List.eq_nil_of_length_eq_zero (by simpa using hlx)
      subst hx0
      have := run_append_nil (P := P) w t ty el i0 z ht hi hz1 ad' m c' news (by rw [h2]; exact hl) hnews hm0 (by unfold maxLen at hm; omega) (by rw [h3]; rw [Nat.zero_add] at hb; omega)
      simpa using this
    | some ad => exact run_append_grow (P := P) w t ty el i0 z ht hi hz1 ad n c xs (by rw [h2]; exact hlx) (fun j v hj => by obtain ⟨a, ha, hc⟩ := hrx j v hj; cases ha; exact hc) ad' m c' news (by rw [h2]; exact hl) hnews hg (by unfold maxLen at hm; omega) (by rw [h3]; exact growslice_fits hg hb)
  have hge := grownCap_ge w (n + m) c el
  have hcm : grownCap w (n + m) c el ≤ maxLen := grownCap_le_maxLen w (n + m) c el hm
  refine OW_valw (.slice (some ⟨w.heap.size, 0, none⟩) (n + m) (grownCap w (n + m) c el)) (w.drew.alloc (.cells (xs.toArray ++ news.toArray ++ Builtin.zeroCells z.cells (grownCap w (n + m) c el - (n + m))) el)) rfl ?_ (h _ w.heap.size (grownCap w (n + m) c el) ?_ (Nat.le_refl _) (by simp) ?_)
  · simp [execOp, resolve, invoke, builtin, hx, hy, hrun]
  · refine ownN_of_blk (Nat.le_refl _) (Blk.new w.drew el _) ?_ hge hcm ?_
    · simp only [Array.size_append, List.size_toArray, size_zeroCells, hz, hlx, hl, ← Nat.add_mul]
      congr 1
      omega
    · simp only [Array.toList_append, List.append_assoc]
      rw [← List.append_assoc, show (n + m) * k = (xs ++ news).length by rw [List.length_append, hlx, hl, Nat.add_mul]]
      exact List.take_left
  · exact (Ext.drew' w).trans' (Ext.alloc' _ _)
end
end Go.Proofs.Ytdpcahfgdpikfaa

/- Whole structs into the midst of a block; structs that are compared. No program in sight. -/
namespace Go.Proofs.Ytdpcahfgdpikfaa
open Go Go.RowKit Go.ChangeShapes Go.WideShapes
set_option linter.unusedVariables false
section
variable {P : Program} {ops : Array Oper} {Q : Exit → (Nat → Value) → World → Prop} {rest : List Oper} {e : Nat → Value} {w : World} {d : Tmp} {ty : TypeId} {pos : String} {aft : Array Edge}
/-- A whole array or struct into the midst of a block of the call's own. -/
theorem OW_storeM {x y : Operand} {t T : TypeId} {n g o : Nat} {zs : List Value} (ht : AggT P t n zs) (hx : ev e x = .pointer (some ⟨g, o, none⟩)) (cs : List Value) (hy : ev e y = .agg cs.toArray) (hl : cs.length = n) {old : List Value} (hb : Blk w g T old.toArray) (ho : o + n ≤ old.length) (h1 : ∀ v ∈ cs, v.oneCell' = true)
    (h : ∀ w', Blk w' g T (old.take o ++ cs ++ old.drop (o + n)).toArray → w.grownBy w' (some g) → OW P ops Q rest e w') : OW P ops Q (⟨none, .store t x y, ty, pos, aft, none⟩ :: rest) e w := by
  have hst := run_storeCells_at (P := P) g o T cs 0 old.toArray w hb (by simp; omega) h1
  simp only [Nat.add_zero] at hst
  have hsz := ht.size
  have hrun : (storeVar t ⟨g, o, none⟩ (.agg cs.toArray)).run P w = .ok () (w.setRow g (old.take o ++ cs ++ old.drop (o + n)).toArray) := by
    cases hq : P.info? t with
    | none => simp [hq] at hsz
    | some i =>
      have hs : cs.length = i.size := by simp [hq] at hsz; omega
      rw [hl] at hst
      simp [storeVar, sizeOf, typeInfo, hq, Value.cells, hs]
      simpa using hst
  refine OW_unit (w.setRow g (old.take o ++ cs ++ old.drop (o + n)).toArray) rfl rfl ?_ (h _ ?_ ?_)
  · simp only [execOp, hx, hy, Instr.storeAt, Instr.sureAddr, Sem.run_bind, Sem.run_pure, Result.andThen_ok, hrun]
  · exact setRow_heap w g old.toArray _ T (0, 0) hb
  · exact ⟨rfl, rfl, rfl, by simp, fun k hk hn => setRow_other w g k _ (fun hh => hn (by rw [hh]))⟩
end
theorem mapM_one {α β : Type} {g : α → Option β} {a : α} {l : List α} {x : β} {xs : List β} (h : g a = some x) (hs : l.mapM g = some xs) : (a :: l).mapM g = some (x :: xs) := by
  rw [List.mapM_cons, h, hs]; rfl
theorem mapM_none {α β : Type} {g : α → Option β} : ([] : List α).mapM g = some [] := rfl
section
variable {P : Program} {t : TypeId} {D : Nat} {cs : List Value}
theorem keyLits_fields {fs : Array Field} (hu : P.underlying t = some (.struct fs)) (hl : cs.length = P.cellsOf t) (hn : fs.all (·.name != "_") = true) (Ls : List (List Lit)) (h : fs.toList.mapM (fun f => P.keyLits D f.type ((cs.drop f.offset).take (P.cellsOf f.type))) = some Ls) : P.keyLits (D + 1) t cs = some Ls.flatten := by
  unfold Program.keyLits
  rw [hu]
  simp only [hl, hn, and_self, if_true, h, Option.map_some]
theorem lit_int {o : Nat} {n : Int} (hu : P.underlying t = some (.int .i64)) (hc : P.cellsOf t = 1) (hcut : (cs.drop o).take 1 = [.int .i64 n]) (hi : I64 n) : P.keyLits (D + 1) t ((cs.drop o).take (P.cellsOf t)) = some [.int .i64 n] := by
  rw [hc, hcut]
  unfold Program.keyLits
  rw [hu]
  have hw : (Lit.int .i64 n).wf = true := by
    unfold I64 at hi
    simp [Lit.wf, IntKind.min, IntKind.max, IntKind.signed, IntKind.bits]; omega
  simp [hw]
theorem lit_u8 {o : Nat} {b : UInt8} (hu : P.underlying t = some (.int .u8)) (hc : P.cellsOf t = 1) (hcut : (cs.drop o).take 1 = [bv b]) : P.keyLits (D + 1) t ((cs.drop o).take (P.cellsOf t)) = some [litB b] := by
  rw [hc, hcut]
  exact keyLits_u8 hu D b
theorem lit_row {o n : Nat} {l : List UInt8} (hq : EqR P t n) (hcut : (cs.drop o).take n = l.map bv) (hl : l.length = n) : P.keyLits (D + 2) t ((cs.drop o).take (P.cellsOf t)) = some (l.map litB) := by
  obtain ⟨el, h1, h2, h3⟩ := hq.row
  rw [hq.size, hcut]
  exact keyLits_arr h1 h2 h3 hq.size D hl
end
end Go.Proofs.Ytdpcahfgdpikfaa
