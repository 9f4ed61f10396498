/- Facts on memory for this claim's walks: what a slice reads as, blocks of a call's own, and one lemma for each operation on memory. No program in sight. -/
import Derived.Test.YthhphmbhlddihaaEng
import Derived.Laws.OwnMore
import Derived.Maps.AppendAt
import Derived.Deep.AppendLies
import Derived.OwnWalk
namespace Go.Proofs.Ythhphmbhlddihaa
open Go Go.RowKit
set_option linter.unusedVariables false

/-! ## Worlds that only grew -/
abbrev Ext (w w' : World) : Prop := Below w.heap.size w w'
theorem Ext.rfl' (w : World) : Ext w w := Below.refl _ _
theorem Ext.trans' {a b c : World} (h : Ext a b) (k : Ext b c) : Ext a c := Below.trans h (k.mono h.size)
theorem below_ext {B : Nat} {a b c : World} (h : Below B a b) (hB : B ≤ b.heap.size) (k : Ext b c) : Below B a c := h.trans (k.mono hB)
theorem ext_below {B : Nat} {a b c : World} (h : Ext a b) (k : Below B b c) (hB : a.heap.size ≤ B) : Ext a c := Below.trans h (k.mono hB)
theorem Ext.drew' (w : World) : Ext w w.drew := (Below.refl _ _).drew
theorem Ext.alloc' (w : World) (o : Obj) : Ext w (w.alloc o) := (Below.refl _ _).alloc (Nat.le_refl _) o
theorem Ext.cell' {w w' : World} (h : Ext w w') {p : Addr} {v : Value} (hc : w.cell? p = some v) : w'.cell? p = some v := by
  rw [h.cell (World.block_lt_of_cell? w p hc)]; exact hc

/-! ## A slice that reads as a list of cells -/
def Rd (w : World) (A : Option Addr) (cs : List Value) : Prop := ∀ (j : Nat) (u : Value), cs[j]? = some u → ∃ ad, A = some ad ∧ w.cell? (ad.add j) = some u
theorem Rd.nil (w : World) (A : Option Addr) : Rd w A [] := fun j u h => by simp at h
theorem Rd.at_ {w : World} {A : Option Addr} {cs : List Value} (h : Rd w A cs) {j : Nat} (hj : j < cs.length) : ∃ ad, A = some ad ∧ w.cell? (ad.add j) = some cs[j] := h j _ (List.getElem?_eq_getElem hj)
theorem Rd.ext {w w' : World} {A : Option Addr} {cs : List Value} (h : Rd w A cs) (he : Ext w w') : Rd w' A cs := fun j u hu => by
  obtain ⟨ad, ha, hc⟩ := h j u hu
  exact ⟨ad, ha, he.cell' hc⟩
theorem Rd.below {w w' : World} {A : Option Addr} {cs : List Value} {B : Nat} (h : Rd w A cs) (hA : ∀ ad, A = some ad → ad.block < B) (he : Below B w w') : Rd w' A cs := fun j u hu => by
  obtain ⟨ad, ha, hc⟩ := h j u hu
  have hb : (ad.add j).block = ad.block := by unfold Addr.add; split <;> rfl
  exact ⟨ad, ha, by rw [he.cell (by rw [hb]; exact hA ad ha)]; exact hc⟩
theorem addr_add_add (a : Addr) (i j : Nat) : (a.add i).add j = a.add (i + j) := by
  unfold Addr.add
  by_cases hi : i = 0 <;> by_cases hj : j = 0 <;> simp [hi, hj, Nat.add_assoc]
theorem addr_add_block (a : Addr) (n : Nat) : (a.add n).block = a.block := by unfold Addr.add; split <;> rfl
theorem add0 (g j : Nat) : (⟨g, 0, none⟩ : Addr).add j = ⟨g, j, none⟩ := by unfold Addr.add; split <;> simp_all
theorem Rd.lt {w : World} {A : Option Addr} {cs : List Value} (h : Rd w A cs) (hn : cs ≠ []) : ∀ ad, A = some ad → ad.block < w.heap.size := by
  intro ad ha
  obtain ⟨ad', ha', hc⟩ := h.at_ (j := 0) (List.length_pos_iff.2 hn)
  rw [ha] at ha'
  cases ha'
  have := World.block_lt_of_cell? w _ hc
  rwa [addr_add_block] at this
/-- A cut. -/
def cutA (A : Option Addr) (m l : Nat) : Option Addr := if m = l then A else A.map (·.add l)
theorem Rd.cut {w : World} {A : Option Addr} {cs : List Value} (h : Rd w A cs) (m l n : Nat) (hm : l + n ≤ m) : Rd w (cutA A m l) ((cs.drop l).take n) := fun j u hu => by
  rw [List.getElem?_take] at hu
  split at hu
  · rename_i hj
    rw [List.getElem?_drop] at hu
    obtain ⟨ad, ha, hc⟩ := h _ u hu
    subst ha
    refine ⟨ad.add l, ?_, by rw [addr_add_add]; exact hc⟩
    unfold cutA
    rw [if_neg (by omega)]
    rfl
  · cases hu

/-! ## Bytes -/
def bv (b : UInt8) : Value := .int .u8 (b.toNat : Int)
def Bs (w : World) (A : Option Addr) (l : List UInt8) : Prop := Rd w A (l.map bv)
theorem Bs.ext {w w' : World} {A : Option Addr} {l : List UInt8} (h : Bs w A l) (he : Ext w w') : Bs w' A l := Rd.ext h he
theorem Bs.nil (w : World) (A : Option Addr) : Bs w A [] := Rd.nil w A
theorem Bs.at_ {w : World} {A : Option Addr} {l : List UInt8} (h : Bs w A l) {j : Nat} (hj : j < l.length) : ∃ ad, A = some ad ∧ w.cell? (ad.add j) = some (bv l[j]) := by
  obtain ⟨ad, ha, hc⟩ := Rd.at_ h (j := j) (by simpa using hj)
  exact ⟨ad, ha, by simpa using hc⟩
theorem Bs.cut {w : World} {A : Option Addr} {l : List UInt8} (h : Bs w A l) (m lo n : Nat) (hm : lo + n ≤ m) : Bs w (cutA A m lo) ((l.drop lo).take n) := by
  unfold Bs
  rw [List.map_take, List.map_drop]
  exact Rd.cut h m lo n hm

/-! ## Blocks known whole -/
def Blk (w : World) (g : Nat) (t : TypeId) (cs : Array Value) : Prop := w.heap[g]? = some (.cells cs t (0, 0))
section
variable {w w' : World} {g : Nat} {t : TypeId} {cs : Array Value}
theorem Blk.lt (h : Blk w g t cs) : g < w.heap.size := by
  rcases Nat.lt_or_ge g w.heap.size with hlt | hge
  · exact hlt
  · unfold Blk at h; rw [Array.getElem?_eq_none hge] at h; cases h
theorem Blk.cell (h : Blk w g t cs) (i : Nat) : w.cell? ⟨g, i, none⟩ = cs[i]? := cell_of_row w g i cs t (0, 0) h
theorem Blk.frozen (h : Blk w g t cs) (i : Nat) : w.frozen? ⟨g, i, none⟩ = false := by
  unfold Blk at h
  simp [World.frozen?, h]
theorem Blk.new (w : World) (t : TypeId) (cs : Array Value) : Blk (w.alloc (.cells cs t)) w.heap.size t cs := heap_alloc_new w _
theorem Blk.ext (h : Blk w g t cs) (he : Ext w w') : Blk w' g t cs := (he.block g h.lt).trans h
theorem Blk.below {B : Nat} (h : Blk w g t cs) (hb : Below B w w') (hg : g < B) : Blk w' g t cs := (hb.block g hg).trans h
theorem Blk.set_ (h : Blk w g t cs) (i : Nat) (u : Value) : Blk (w.setCell ⟨g, i, none⟩ u) g t (cs.setIfInBounds i u) := by
  unfold Blk at h ⊢
  simp [World.setCell, Array.getElem?_modify, h]
theorem Blk.only {g' : Nat} (h : Blk w g t cs) (ho : w.grownBy w' (some g')) (hne : g ≠ g') : Blk w' g t cs := (ho.block g h.lt (by simpa using hne)).trans h
theorem Blk.rd (h : Blk w g t cs) : Rd w (some ⟨g, 0, none⟩) cs.toList := fun j u hu => ⟨_, rfl, by rw [add0, h.cell]; simpa using hu⟩
/-- A block as an owned row. -/
theorem Blk.own (h : Blk w g t cs) {base : Nat} (hb : base ≤ g) (hm : cs.size ≤ maxLen) : w.ownsRow base t 1 (.slice (some ⟨g, 0, none⟩) cs.size cs.size) cs.size cs.toList :=
  ⟨by simp, .inr ⟨g, cs.size, cs, rfl, hb, h, Nat.le_refl _, hm, by simp, by rw [List.take_of_length_le (by simp)]⟩⟩
end
theorem only_set (w : World) (g i : Nat) (u : Value) : w.grownBy (w.setCell ⟨g, i, none⟩ u) (some g) :=
  ⟨rfl, rfl, rfl, by simp, fun k hk hne => heap_setCell_other w ⟨g, i, none⟩ k u (fun e => hne (by simp [e]))⟩
theorem only_below {w w' : World} {g B : Nat} (h : w.grownBy w' (some g)) (hB : B ≤ g) (hw : B ≤ w.heap.size) : Below B w w' :=
  ⟨h.os, h.tape, h.output, h.size, fun k hk => h.block k (by omega) (by simp; omega)⟩
theorem below_only {w0 w w' : World} {g B : Nat} (hb : Below B w0 w) (h : w.grownBy w' (some g)) (hB : B ≤ g) (hw : B ≤ w.heap.size) : Below B w0 w' := hb.trans (only_below h hB hw)
theorem Rd.only {w w' : World} {A : Option Addr} {cs : List Value} {g B : Nat} (h : Rd w A cs) (hA : ∀ ad, A = some ad → ad.block < B) (ho : w.grownBy w' (some g)) (hB : B ≤ g) (hw : B ≤ w.heap.size) : Rd w' A cs := h.below hA (only_below ho hB hw)

/-! ## Fresh rows -/
theorem own_rd {w : World} {base : Nat} {T : TypeId} {A : Option Addr} {n c : Nat} {xs : List Value} (h : w.ownsRow base T 1 (.slice A n c) n xs) : Rd w A xs := by
  intro j u hu
  rcases h.2 with ⟨h', h0⟩ | ⟨g, cap, cur, hv, _⟩
  · subst h0
    have := h.1
    have hx : xs = [] := List.eq_nil_of_length_eq_zero (by simpa using this)
    subst hx
    simp at hu
  · have hA : A = some ⟨g, 0, none⟩ := by injection hv
    subst hA
    exact ⟨_, rfl, h.cells (g := g) rfl j u hu⟩
theorem own_cap {w : World} {base : Nat} {T : TypeId} {A : Option Addr} {n c : Nat} {xs : List Value} (h : w.ownsRow base T 1 (.slice A n c) n xs) : n ≤ c ∧ c ≤ maxLen := by
  rcases h.2 with ⟨h', h0⟩ | ⟨g, cap, cur, hv, _, _, hn, hm, _⟩
  · injection h' with _ _ hc
    subst h0; subst hc
    exact ⟨Nat.le_refl _, by unfold maxLen; omega⟩
  · injection hv with _ _ hc
    subst hc
    exact ⟨hn, hm⟩
theorem own_ext {w w' : World} {base : Nat} {T : TypeId} {v : Value} {n : Nat} {xs : List Value} (h : w.ownsRow base T 1 v n xs) (he : Ext w w') : w'.ownsRow base T 1 v n xs := by
  refine ⟨h.1, ?_⟩
  rcases h.2 with hl | ⟨g, cap, cur, hv, hb, hg, hr⟩
  · exact .inl hl
  · exact .inr ⟨g, cap, cur, hv, hb, (Blk.ext (t := T) hg he), hr⟩
theorem own_mono {w : World} {base base' : Nat} {T : TypeId} {v : Value} {n : Nat} {xs : List Value} (h : w.ownsRow base T 1 v n xs) (hb : base' ≤ base) : w.ownsRow base' T 1 v n xs := by
  refine ⟨h.1, ?_⟩
  rcases h.2 with hl | ⟨g, cap, cur, hv, hg, hr⟩
  · exact .inl hl
  · exact .inr ⟨g, cap, cur, hv, Nat.le_trans hb hg, hr⟩
theorem own_block {w : World} {base : Nat} {T : TypeId} {A : Option Addr} {n c : Nat} {xs : List Value} (h : w.ownsRow base T 1 (.slice A n c) n xs) : ∀ ad, A = some ad → base ≤ ad.block ∧ ad.block < w.heap.size := by
  intro ad ha
  subst ha
  exact h.lt ad.block rfl
/-- What is owned and not empty: its block. -/
theorem own_blk {w : World} {base : Nat} {T : TypeId} {A : Option Addr} {n c : Nat} {xs : List Value} (h : w.ownsRow base T 1 (.slice A n c) n xs) (hn : 0 < n) :
    ∃ g cur, A = some ⟨g, 0, none⟩ ∧ base ≤ g ∧ Blk w g T cur ∧ cur.size = c ∧ n ≤ c ∧ c ≤ maxLen ∧ cur.toList.take n = xs := by
  rcases h.2 with ⟨h', h0⟩ | ⟨g, cap, cur, hv, hb, hg, hnc, hm, hs, ht⟩
  · omega
  · injection hv with hA _ hc
    subst hc
    exact ⟨g, cur, hA, hb, hg, by simpa using hs, hnc, hm, by simpa using ht⟩
theorem own_of_blk {w : World} {base : Nat} {T : TypeId} {g c n : Nat} {cur : Array Value} {xs : List Value} (hb : base ≤ g) (hg : Blk w g T cur) (hc : cur.size = c) (hn : n ≤ c) (hm : c ≤ maxLen) (ht : cur.toList.take n = xs) :
    w.ownsRow base T 1 (.slice (some ⟨g, 0, none⟩) n c) n xs := by
  refine ⟨?_, .inr ⟨g, c, cur, rfl, hb, hg, hn, hm, by simpa using hc, by simpa using ht⟩⟩
  rw [← ht, List.length_take]
  simp
  omega

/-- Fresh bytes, and a world that only grew: what a function hands back that makes bytes. -/
structure Fresh (T : TypeId) (w w' : World) (A : Option Addr) (c : Nat) (l : List UInt8) : Prop where
  own : w'.ownsRow w.heap.size T 1 (.slice A l.length c) l.length (l.map bv)
  ext : Ext w w'
theorem Fresh.bs {T : TypeId} {w w' : World} {A : Option Addr} {c : Nat} {l : List UInt8} (h : Fresh T w w' A c l) : Bs w' A l := own_rd h.own
theorem Fresh.cap {T : TypeId} {w w' : World} {A : Option Addr} {c : Nat} {l : List UInt8} (h : Fresh T w w' A c l) : l.length ≤ c := (own_cap h.own).1
theorem Fresh.back {T : TypeId} {w0 w w' : World} {A : Option Addr} {c : Nat} {l : List UInt8} (h : Fresh T w w' A c l) (he : Ext w0 w) : Fresh T w0 w' A c l := ⟨own_mono h.own he.size, he.trans' h.ext⟩
def RetBs (T : TypeId) (w : World) (l : List UInt8) : Ending → World → Prop := fun en w' => ∃ A c, en = .returned (.slice A l.length c) ∧ Fresh T w w' A c l
def RetV (w : World) (v : Value) : Ending → World → Prop := fun en w' => en = .returned v ∧ Ext w w'

/-! ## Operations -/
def OneT (P : Program) (t : TypeId) : Prop := ∃ z b, (P.info? t).map (fun i => (i.zero, i.size, i.bytes)) = some (some z, 1, b) ∧ z.cells.size = 1 ∧ (isAgg t).run P default = .ok false default
theorem OneT.agg {P : Program} {t : TypeId} (h : OneT P t) (w : World) : (isAgg t).run P w = .ok false w := by
  obtain ⟨z, b, _, _, h⟩ := h
  revert h
  simp only [isAgg, underlying, program]
  cases hu : P.underlying t with
  | none => intro h; simp [Sem.run_bind, Sem.run, hu, stuck] at h
  | some d => cases d <;> intro h <;> simp [Sem.run_bind, Sem.run, hu] at h ⊢
theorem typeInfo_run {P : Program} {t : TypeId} {i : TypeInfo} {w : World} (h : P.info? t = some i) : (typeInfo t).run P w = .ok i w := by simp [typeInfo, h]
theorem OneT.info {P : Program} {t : TypeId} (h : OneT P t) : ∃ i z, P.info? t = some i ∧ i.size = 1 ∧ i.zero = some z ∧ z.cells.size = 1 := by
  obtain ⟨z, b, h, hz, _⟩ := h
  cases hi : P.info? t with
  | none => rw [hi] at h; cases h
  | some i =>
    rw [hi] at h
    simp at h
    exact ⟨i, z, rfl, h.2.1, h.1, hz⟩
section
variable {P : Program} {ops : Array Oper} {Q : Exit → (Nat → Value) → World → Prop} {rest : List Oper} {e : Nat → Value} {w : World} {d : Tmp} {ty : TypeId} {pos : String} {aft : Array Edge}
theorem OW_load1 {x : Operand} {t : TypeId} {ad : Addr} (ht : OneT P t) (hx : ev e x = .pointer (some ad)) (v : Value) (hc : w.cell? ad = some v) (h : OW P ops Q rest (upd e d v) w) : OW P ops Q (⟨some d, .load t x, ty, pos, aft, none⟩ :: rest) e w := by
  refine OW_val v rfl ?_ h
  have hl : (loadVar t ad).run P w = .ok v w := by
    simp [loadVar, Sem.run_bind, ht.agg w, load, Sem.run, hc]
  simp [execOp, hx, Instr.loadAt, Instr.sureAddr, hl]
theorem run_store1 {t : TypeId} {ad : Addr} (ht : OneT P t) {v u : Value} (hv : v.oneCell' = true) (hc : w.cell? ad = some u) (hf : w.frozen? ad = false) : (storeVar t ad v).run P w = .ok () (w.setCell ad v) := by
  obtain ⟨i, z, hi, hs, _, _⟩ := ht.info
  have ha : ad.add 0 = ad := rfl
  cases v <;> first
    | (simp [Value.oneCell'] at hv; done)
    | (simp [storeVar, sizeOf, typeInfo, program, Sem.run, hi, hs, Value.cells, storeCells, store, ha, hc, hf])
theorem OW_store1 {x y : Operand} {t : TypeId} {ad : Addr} (ht : OneT P t) (hx : ev e x = .pointer (some ad)) (v u : Value) (hy : ev e y = v) (hv : v.oneCell' = true) (hc : w.cell? ad = some u) (hf : w.frozen? ad = false) (h : OW P ops Q rest e (w.setCell ad v)) :
    OW P ops Q (⟨none, .store t x y, ty, pos, aft, none⟩ :: rest) e w := by
  refine OW_unit _ rfl rfl ?_ h
  simp [execOp, hx, hy, Instr.storeAt, Instr.sureAddr, run_store1 ht hv hc hf]
/-- A store into a block of the call's own. -/
theorem OW_storeB {x y : Operand} {t T : TypeId} {g i : Nat} {cs : Array Value} (ht : OneT P t) (hx : ev e x = .pointer (some ⟨g, i, none⟩)) (v : Value) (hy : ev e y = v) (hv : v.oneCell' = true) (hb : Blk w g T cs) (hi : i < cs.size)
    (h : ∀ w', Blk w' g T (cs.setIfInBounds i v) → w.grownBy w' (some g) → OW P ops Q rest e w') :
    OW P ops Q (⟨none, .store t x y, ty, pos, aft, none⟩ :: rest) e w :=
  OW_store1 ht hx v cs[i] hy hv (by rw [hb.cell]; simp [hi]) (hb.frozen i) (h _ (hb.set_ i v) (only_set w g i v))
theorem OW_idxS {x y : Operand} {t el : TypeId} {ad : Addr} {n c : Nat} {k : IntKind} {j : Int} (ht : P.underlying t = some (.slice el)) (hel : OneT P el) (hx : ev e x = .slice (some ad) n c) (hy : ev e y = .int k j) (jN : Nat) (hj : j = (jN : Int)) (hn : jN < n)
    (h : OW P ops Q rest (upd e d (.pointer (some (ad.add jN)))) w) : OW P ops Q (⟨some d, .indexAddr t x y, ty, pos, aft, none⟩ :: rest) e w := by
  refine OW_val _ rfl ?_ h
  obtain ⟨i, z, hi, hs, _, _⟩ := hel.info
  subst hj
  have h1 : (0 : Int) ≤ (jN : Int) ∧ (jN : Int) < (n : Int) := by omega
  simp [execOp, hx, hy, Instr.indexAt, asIntOf, run_underlying ht, sizeOf, typeInfo, hi, hs, hn]
theorem OW_idxA {x y : Operand} {t el : TypeId} {ad : Addr} {n : Nat} {k : IntKind} {j : Int} (ht : P.underlying t = some (.array n el)) (hel : OneT P el) (hx : ev e x = .pointer (some ad)) (hy : ev e y = .int k j) (jN : Nat) (hj : j = (jN : Int)) (hn : jN < n)
    (h : OW P ops Q rest (upd e d (.pointer (some (ad.add jN)))) w) : OW P ops Q (⟨some d, .indexAddr t x y, ty, pos, aft, none⟩ :: rest) e w := by
  refine OW_val _ rfl ?_ h
  obtain ⟨i, z, hi, hs, _, _⟩ := hel.info
  subst hj
  simp [execOp, hx, hy, Instr.indexAt, Instr.sureAddr, asIntOf, run_underlying ht, sizeOf, typeInfo, hi, hs, hn]
/-- A bound of a cut. -/
def bnd (e : Nat → Value) (x : Option Operand) (dflt v : Int) : Prop := match x with | some o => ∃ k, ev e o = .int k v | none => v = dflt
theorem run_bnd {x : Operand} {v : Int} {y : Nat} {code : BoundsCode} {k : IntKind} (h : ev e x = .int k v) (h0 : 0 ≤ v ∧ v ≤ y) : (Instr.sliceBound (ev e x) y code).run P w = .ok v.toNat w := by
  simp [Instr.sliceBound, asIntOf, h, h0.1, h0.2]
theorem run_slice {t el : TypeId} {A : Option Addr} {n c : Nat} {lo hi mx : Option Operand} {lv hv mv : Int} (ht : P.underlying t = some (.slice el)) (hel : OneT P el)
    (hlo : bnd e lo 0 lv) (hhi : bnd e hi n hv) (hmx : bnd e mx c mv) (hmh : mx.isSome = true → hi.isSome = true) (hb : 0 ≤ lv ∧ lv ≤ hv ∧ hv ≤ mv ∧ mv ≤ c) :
    (Instr.sliceAt t (.slice A n c) (lo.map (ev e)) (hi.map (ev e)) (mx.map (ev e))).run P w = .ok (.slice (cutA A mv.toNat lv.toNat) (hv.toNat - lv.toNat) (mv.toNat - lv.toNat)) w := by
  obtain ⟨i, z, hi', hs, _, _⟩ := hel.info
  obtain ⟨b0, b1, b2, b3⟩ := hb
  have hvn : ((hv.toNat : Nat) : Int) = hv := by omega
  have hmn : ((mv.toNat : Nat) : Int) = mv := by omega
  have key : (Instr.sliceBounds true n c (lo.map (ev e)) (hi.map (ev e)) (mx.map (ev e))).run P w = .ok (lv.toNat, hv.toNat, mv.toNat) w := by
    cases mx with
    | none =>
      simp only [bnd] at hmx
      subst hmx
      cases hi with
      | none =>
        simp only [bnd] at hhi
        subst hhi
        cases lo with
        | none => simp only [bnd] at hlo; subst hlo; simp [Instr.sliceBounds]
        | some lo =>
          obtain ⟨k, hlo⟩ := hlo
          simp [Instr.sliceBounds, run_bnd (P := P) (w := w) (y := n) (code := .sliceB) hlo ⟨b0, by omega⟩]
      | some hi =>
        obtain ⟨k, hhi⟩ := hhi
        have r1 := run_bnd (P := P) (w := w) (y := c) (code := .sliceAcap) hhi ⟨by omega, by omega⟩
        cases lo with
        | none => simp only [bnd] at hlo; subst hlo; simp [Instr.sliceBounds, r1]
        | some lo =>
          obtain ⟨k, hlo⟩ := hlo
          simp [Instr.sliceBounds, r1, run_bnd (P := P) (w := w) (y := hv.toNat) (code := .sliceB) hlo ⟨b0, by omega⟩]
    | some mx =>
      obtain ⟨k, hmx⟩ := hmx
      have r0 := run_bnd (P := P) (w := w) (y := c) (code := .slice3Acap) hmx ⟨by omega, by omega⟩
      cases hi with
      | none => simp at hmh
      | some hi =>
        obtain ⟨k, hhi⟩ := hhi
        have r1 := run_bnd (P := P) (w := w) (y := mv.toNat) (code := .slice3B) hhi ⟨by omega, by omega⟩
        cases lo with
        | none => simp only [bnd] at hlo; subst hlo; simp [Instr.sliceBounds, r0, r1]
        | some lo =>
          obtain ⟨k, hlo⟩ := hlo
          simp [Instr.sliceBounds, r0, r1, run_bnd (P := P) (w := w) (y := hv.toNat) (code := .slice3C) hlo ⟨b0, by omega⟩]
  simp [Instr.sliceAt, Instr.slice, run_underlying ht, key, sizeOf, typeInfo, hi', hs, cutA]
theorem OW_slice {x : Operand} {t el : TypeId} {A : Option Addr} {n c : Nat} {lo hi mx : Option Operand} {lv hv mv : Int} (ht : P.underlying t = some (.slice el)) (hel : OneT P el) (hx : ev e x = .slice A n c)
    (hlo : bnd e lo 0 lv) (hhi : bnd e hi n hv) (hmx : bnd e mx c mv) (hmh : mx.isSome = true → hi.isSome = true) (hb : 0 ≤ lv ∧ lv ≤ hv ∧ hv ≤ mv ∧ mv ≤ c)
    (h : OW P ops Q rest (upd e d (.slice (cutA A mv.toNat lv.toNat) (hv.toNat - lv.toNat) (mv.toNat - lv.toNat))) w) : OW P ops Q (⟨some d, .slice t x lo hi mx, ty, pos, aft, none⟩ :: rest) e w := by
  refine OW_val _ rfl ?_ h
  simp [execOp, hx, run_slice ht hel hlo hhi hmx hmh hb]
/-- A cut of bytes that are only read: its place gets a name. -/
theorem OW_sliceBs {x : Operand} {t el : TypeId} {A : Option Addr} {n c : Nat} {l : List UInt8} {lo hi : Option Operand} {lv hv : Int} (ht : P.underlying t = some (.slice el)) (hel : OneT P el) (hbs : Bs w A l) (hn : n = l.length) (hc : n ≤ c) (hx : ev e x = .slice A n c)
    (hlo : bnd e lo 0 lv) (hhi : bnd e hi n hv) (lN hN : Nat) (hl : lv = (lN : Int)) (hh : hv = (hN : Int)) (hb : lN ≤ hN ∧ hN ≤ n)
    (h : ∀ A', Bs w A' ((l.drop lN).take (hN - lN)) → ((l.drop lN).take (hN - lN)).length = hN - lN → OW P ops Q rest (upd e d (.slice A' (hN - lN) (c - lN))) w) : OW P ops Q (⟨some d, .slice t x lo hi none, ty, pos, aft, none⟩ :: rest) e w := by
  subst hl; subst hh
  have := h (cutA A c lN) (hbs.cut c lN (hN - lN) (by omega)) (by simp; omega)
  exact OW_slice (mx := none) (mv := c) ht hel hx hlo hhi rfl (fun h => by cases h) (by omega) (by simpa using this)
/-- make([]T, n). -/
theorem OW_make {x y : Operand} {t el : TypeId} {z : Value} {b : Nat} {n : Nat} {k k' : IntKind} {j j' : Int} (ht : P.underlying t = some (.slice el)) (hinfo : (P.info? el).map (fun i => (i.zero, i.size, i.bytes)) = some (some z, 1, b)) (hz : z.cells = #[z])
    (hx : ev e x = .int k j) (hy : ev e y = .int k' j') (hj : j = (n : Int)) (hj' : j' = (n : Int)) (hb : b * n ≤ 281474976710656) (hm : n ≤ maxLen)
    (h : ∀ w' g, Blk w' g el (Array.replicate n z) → w.heap.size ≤ g → Ext w w' → OW P ops Q rest (upd e d (.slice (some ⟨g, 0, none⟩) n n)) w') : OW P ops Q (⟨some d, .makeSlice t x y, ty, pos, aft, none⟩ :: rest) e w := by
  subst hj; subst hj'
  obtain ⟨i0, hi, h1, h2, h3⟩ := info_parts hinfo
  have hr := run_make (P := P) w t el i0 z ht hi h1 k k' n n (by omega) (by omega) (by rw [h3, ← Int.natCast_mul]; omega) (by unfold maxLen at hm; omega)
  have harr : madeCells z.cells (((n : Int)).toNat * i0.size) = Array.replicate n z := by
    apply Array.ext'
    rw [hz, h2, toList_madeCells_one]
    simp
  rw [harr] at hr
  simp only [Int.toNat_natCast] at hr
  refine OW_valw (.slice (some ⟨w.heap.size, 0, none⟩) n n) (w.alloc (.cells (Array.replicate n z) el)) rfl ?_ (h _ w.heap.size (Blk.new w el _) (Nat.le_refl _) (Ext.alloc' w _))
  simp [execOp, hx, hy, hr]
/-- append of a slice onto a row of the call's own. -/
theorem OW_append {x y : Operand} {t el : TypeId} {z : Value} {b : Nat} {base : Nat} {A A' : Option Addr} {n c m c' : Nat} {xs news : List Value} (ht : P.underlying t = some (.slice el)) (hinfo : (P.info? el).map (fun i => (i.zero, i.size, i.bytes)) = some (some z, 1, b)) (hz : z.cells.size = 1)
    (hx : ev e x = .slice A n c) (hy : ev e y = .slice A' m c') (hown : w.ownsRow base el 1 (.slice A n c) n xs) (hrd : Rd w A' news) (hl : news.length = m) (h1 : ∀ u ∈ news, u.oneCell' = true)
    (hm : n + m ≤ maxLen) (hb : (n + m) * b ≤ 140737488355328) (hbase : base ≤ w.heap.size)
    (h : ∀ w' A2 c2, w'.ownsRow base el 1 (.slice A2 (n + m) c2) (n + m) (xs ++ news) → Below base w w' → OW P ops Q rest (upd e d (.slice A2 (n + m) c2)) w') :
    OW P ops Q (⟨some d, .call { callee := .builtin .append, args := #[x, y], argTypes := #[t, t] }, ty, pos, aft, none⟩ :: rest) e w := by
  obtain ⟨i0, hi, hz1, h2, h3⟩ := info_parts hinfo
  have step : ∃ v' w', (Builtin.append_ #[t, t] ty #[.slice A n c, .slice A' m c']).run P w = .ok v' w' ∧ w'.ownsRow base el 1 v' (n + m) (xs ++ news) ∧ w.grownBy w' (Value.ownBlock (.slice A n c)) := by
    cases A' with
    | none =>
      have hn0 : news = [] := by
        cases news with
        | nil => rfl
        | cons u r => obtain ⟨ad, ha, _⟩ := hrd 0 u rfl; cases ha
      subst hn0
      have hm0 : m = 0 := by simpa using hl.symm
      subst hm0
      refine ⟨.slice A n c, w, ?_, by simpa using hown, World.grownBy.refl w _⟩
      rcases hown.2 with ⟨h', h0⟩ | ⟨g, cap, cur, hv, _, _, hnc, _⟩
      · injection h' with hA _ hc
        subst hA; subst h0; subst hc
        simp [Builtin.append_, run_underlying ht, sizeOf, typeInfo, hi, Builtin.lenOf, Builtin.firstCells]
      · injection hv with hA _ hc
        subst hA; subst hc
        simp [Builtin.append_, run_underlying ht, sizeOf, typeInfo, hi, Builtin.lenOf, Builtin.firstCells, hnc, storeCells]
    | some ad =>
      obtain ⟨v', w', hrun, g1, g2, _⟩ := run_append_own (P := P) w base t ty el i0 z 1 b ht hi hz1 h2 h3 hz (by decide) (.slice A n c) n xs hown ad m c' news (by simpa using hl)
        (fun j u hu => by obtain ⟨ad', ha, hc⟩ := hrd j u hu; cases ha; exact hc) h1 hm hb hbase
      exact ⟨v', w', hrun, g1, g2⟩
  obtain ⟨v', w', hrun, g1, g2⟩ := step
  have hform : ∃ A2 c2, v' = .slice A2 (n + m) c2 := by
    rcases g1.2 with ⟨h', h0⟩ | ⟨g, cap, cur, hv, _⟩
    · exact ⟨none, 0, by rw [h', h0]⟩
    · exact ⟨_, _, hv⟩
  obtain ⟨A2, c2, rfl⟩ := hform
  refine OW_valw (.slice A2 (n + m) c2) w' rfl ?_ (h w' A2 c2 g1 ((Below.refl base w).grown g2 hbase (fun k hk => (hown.lt k hk).1)))
  simp [execOp, resolve, invoke, builtin, hx, hy, hrun]
/-- A literal slice. -/
def idxParts : List Value → Nat → List (Nat × Value)
  | [], _ => []
  | v :: l, k => (k, v) :: idxParts l (k + 1)
theorem cells_one {v : Value} (h : v.oneCell' = true) : v.cells = #[v] := by cases v <;> first | rfl | (simp [Value.oneCell'] at h)
theorem fill_parts : ∀ (vs : List Value) (k : Nat) (cs : Array Value), (∀ v ∈ vs, v.oneCell' = true) → cs.size = k + vs.length → Instr.fill (fun i => some (i * 1, 1)) cs (idxParts vs k) = some (cs.toList.take k ++ vs).toArray
  | [], k, cs, _, hs => by
    simp only [idxParts, Instr.fill, List.append_nil]
    rw [List.take_of_length_le (by simp at hs ⊢; omega)]
  | v :: vs, k, cs, h1, hs => by
    have hv := cells_one (h1 v List.mem_cons_self)
    simp only [List.length_cons] at hs
    have ih := fill_parts vs (k + 1) (cs.setIfInBounds k v) (fun u hu => h1 u (List.mem_cons_of_mem _ hu)) (by simp; omega)
    unfold idxParts Instr.fill
    simp only [hv]
    have hc : ¬ ((decide ((#[v] : Array Value).size ≠ 1) || decide (k * 1 + (#[v] : Array Value).size > cs.size)) = true) := by simp; omega
    rw [if_neg hc]
    have hf : (#[v] : Array Value).zipIdx.foldl (fun cs x => cs.setIfInBounds (k * 1 + x.2) x.1) cs = cs.setIfInBounds k v := by simp
    have : ((cs.setIfInBounds k v).toList.take (k + 1) ++ vs) = (cs.toList.take k ++ v :: vs) := by
      rw [Array.toList_setIfInBounds, List.take_succ_eq_append_getElem (by simp; omega)]
      simp [List.take_set_of_le]
    rw [this] at ih
    exact hf ▸ ih
theorem OW_lit {t el : TypeId} {n : Nat} {parts : Array (Nat × Operand)} {z : Value} {b : Nat} (vs : List Value) (ht : P.underlying t = some (.slice el)) (hinfo : (P.info? el).map (fun i => (i.zero, i.size, i.bytes)) = some (some z, 1, b))
    (hp : parts.toList.map (fun x => (x.1, ev e x.2)) = idxParts vs 0) (hn : n = vs.length) (h1 : ∀ v ∈ vs, v.oneCell' = true) (hlt : n ≤ 1000)
    (h : ∀ w' g, Blk w' g el vs.toArray → w.heap.size ≤ g → Ext w w' → OW P ops Q rest (upd e d (.slice (some ⟨g, 0, none⟩) n n)) w') : OW P ops Q (⟨some d, .buildSlice t n parts, ty, pos, aft, none⟩ :: rest) e w := by
  obtain ⟨i0, hi, hz, h2, h3⟩ := info_parts hinfo
  refine OW_valw (.slice (some ⟨w.heap.size, 0, none⟩) n n) (w.alloc (.cells vs.toArray el)) rfl ?_ (h _ w.heap.size (Blk.new w el _) (Nat.le_refl _) (Ext.alloc' w _))
  have hpp : (parts.map fun x => (x.1, ev e x.2)).toList = idxParts vs 0 := by rw [Array.toList_map]; exact hp
  have hbig : ¬ (n * 1 > 2 ^ 24) := by omega
  have key : ∀ zs : Array Value, zs.size = n → Instr.fill (fun i => some (i * 1, 1)) zs (parts.map fun x => (x.1, ev e x.2)).toList = some vs.toArray := fun zs hz => by
    rw [hpp, fill_parts vs 0 zs h1 (by rw [hz, hn]; simp)]
    simp
  have hrun : (Instr.buildSlice t n (parts.map fun x => (x.1, ev e x.2))).run P w = .ok (.slice (some ⟨w.heap.size, 0, none⟩) n n) (w.alloc (.cells vs.toArray el)) := by
    by_cases h0 : n * 1 = 0
    · simp only [Instr.buildSlice, Sem.run_bind, run_underlying ht, Result.andThen_ok, sizeOf, typeInfo_run hi, h2, Sem.run_pure, if_neg hbig, if_pos h0, key _ (show (Array.map (fun x => (#[] : Array Value)[x % (#[] : Array Value).size]!) (Array.range (n * 1))).size = n by simp)]
      rfl
    · simp only [Instr.buildSlice, Sem.run_bind, run_underlying ht, Result.andThen_ok, sizeOf, typeInfo_run hi, h2, Sem.run_pure, if_neg hbig, if_neg h0, zeroValue, hz, key _ (show (Array.map (fun x => z.cells[x % z.cells.size]!) (Array.range (n * 1))).size = n by simp)]
      rfl
  simp only [execOp, Sem.run_bind]
  rw [show (parts.map fun (x : Nat × Operand) => match x with | (i, x) => (i, ev e x)) = parts.map fun x => (x.1, ev e x.2) from rfl, hrun]
  rfl
/-- A call that hands back fresh bytes. -/
theorem OW_callBs {f : FuncId} {fn : Func} {args : List Operand} {args' : List Value} {tys : Array TypeId} {T : TypeId} {l : List UInt8} (hf : P.funcs[f]? = some fn) (hn : (fn.name == "runtime.NumGoroutine") = false) (hb : fn.body.isNone = false)
    (hc : Calls P f args'.toArray w (RetBs T w l)) (ha : args.map (ev e) = args') (h : ∀ w' A c, Fresh T w w' A c l → OW P ops Q rest (upd e d (.slice A l.length c)) w') :
    OW P ops Q (⟨some d, .call { callee := .value (.func f), args := args.toArray, argTypes := tys }, ty, pos, aft, none⟩ :: rest) e w :=
  OW_callC hf hn hb hc ha fun en w' ⟨A, c, he, hf⟩ => ⟨_, he, h w' A c hf⟩
/-- The first append, onto nil. -/
theorem OW_append0 {x y : Operand} {t el : TypeId} {z : Value} {b : Nat} {base : Nat} {A' : Option Addr} {m c' : Nat} {news : List Value} (ht : P.underlying t = some (.slice el)) (hinfo : (P.info? el).map (fun i => (i.zero, i.size, i.bytes)) = some (some z, 1, b)) (hz : z.cells.size = 1)
    (hx : ev e x = .slice none 0 0) (hy : ev e y = .slice A' m c') (hrd : Rd w A' news) (hl : news.length = m) (h1 : ∀ u ∈ news, u.oneCell' = true)
    (hm : m ≤ maxLen) (hb : m * b ≤ 140737488355328) (hbase : base ≤ w.heap.size)
    (h : ∀ w' A2 c2, w'.ownsRow base el 1 (.slice A2 m c2) m news → Below base w w' → OW P ops Q rest (upd e d (.slice A2 m c2)) w') :
    OW P ops Q (⟨some d, .call { callee := .builtin .append, args := #[x, y], argTypes := #[t, t] }, ty, pos, aft, none⟩ :: rest) e w :=
  OW_append ht hinfo hz hx hy (World.ownsRow_nil w base el 1) hrd hl h1 (by omega) (by rw [Nat.zero_add]; exact hb) hbase fun w' A2 c2 ho hb => by
    rw [Nat.zero_add, List.nil_append] at ho
    rw [Nat.zero_add]
    exact h w' A2 c2 ho hb
end
theorem bv_one (l : List UInt8) : ∀ u ∈ l.map bv, u.oneCell' = true := by
  intro u hu
  obtain ⟨b, _, rfl⟩ := List.mem_map.1 hu
  rfl
end Go.Proofs.Ythhphmbhlddihaa
