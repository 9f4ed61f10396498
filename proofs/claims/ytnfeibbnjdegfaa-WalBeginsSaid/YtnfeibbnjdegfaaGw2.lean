/- Several texts in one, as they stand in wip/src. -/
import Derived.Laws.OwnMore
import Derived.Maps.AppendAt
import Derived.Deep.AppendLies
import Derived.OwnWalk
import Derived.Deep.Quiet
import Derived.StillTail
import Derived.Test.YtnfeibbnjdegfaaRows
import Derived.Test.YtnfeibbnjdegfaaGw1
/- Facts on memory for this claim's walks: what a slice reads as, blocks of a call's own, and one lemma for each operation on memory. No program in sight. -/
namespace Go.Proofs.Ytnfeibbnjdegfaa
open Go Go.RowKit
set_option linter.unusedVariables false

/-! ## Worlds that only grew -/
abbrev Ext (w w' : World) : Prop := Below w.heap.size w w'
theorem Ext.rfl' (w : World) : Ext w w := Below.refl _ _
theorem Ext.trans' {a b c : World} (h : Ext a b) (k : Ext b c) : Ext a c := Below.trans h (k.mono h.size)
theorem below_ext {B : Nat} {a b c : World} (h : Below B a b) (hB : B ≤ b.heap.size) (k : Ext b c) : Below B a c := h.trans (k.mono hB)
theorem ext_below {B : Nat} {a b c : World} (h : Ext a b) (k : Below B b c) (hB : a.heap.size ≤ B) : Ext a c := Below.trans h (k.mono hB)
theorem Ext.drew' (w : World) : Ext w w.drew := (Below.refl _ _).drew
theorem Ext.alloc' (w : World) (o : Obj) : Ext w (w.alloc o) := (Below.refl _ _).alloc (Nat.le_refl _) o
theorem Ext.cell' {w w' : World} (h : Ext w w') {p : Addr} {v : Value} (hc : w.cell? p = some v) : w'.cell? p = some v := by
  rw [h.cell (World.block_lt_of_cell? w p hc)]; exact hc

/-! ## A slice that reads as a list of cells -/
def Rd (w : World) (A : Option Addr) (cs : List Value) : Prop := ∀ (j : Nat) (u : Value), cs[j]? = some u → ∃ ad, A = some ad ∧ w.cell? (ad.add j) = some u
theorem Rd.nil (w : World) (A : Option Addr) : Rd w A [] := fun j u h => by simp at h
theorem Rd.at_ {w : World} {A : Option Addr} {cs : List Value} (h : Rd w A cs) {j : Nat} (hj : j < cs.length) : ∃ ad, A = some ad ∧ w.cell? (ad.add j) = some cs[j] := h j _ (List.getElem?_eq_getElem hj)
theorem Rd.ext {w w' : World} {A : Option Addr} {cs : List Value} (h : Rd w A cs) (he : Ext w w') : Rd w' A cs := fun j u hu => by
  obtain ⟨ad, ha, hc⟩ := h j u hu
  exact ⟨ad, ha, he.cell' hc⟩
theorem Rd.below {w w' : World} {A : Option Addr} {cs : List Value} {B : Nat} (h : Rd w A cs) (hA : ∀ ad, A = some ad → ad.block < B) (he : Below B w w') : Rd w' A cs := fun j u hu => by
  obtain ⟨ad, ha, hc⟩ := h j u hu
  have hb : (ad.add j).block = ad.block := by unfold Addr.add; split <;> rfl
  exact ⟨ad, ha, by rw [he.cell (by rw [hb]; exact hA ad ha)]; exact hc⟩
theorem addr_add_add (a : Addr) (i j : Nat) : (a.add i).add j = a.add (i + j) := by
  unfold Addr.add
  by_cases hi : i = 0 <;> by_cases hj : j = 0 <;> simp [hi, hj, Nat.add_assoc]
theorem addr_add_block (a : Addr) (n : Nat) : (a.add n).block = a.block := by unfold Addr.add; split <;> rfl
theorem add0 (g j : Nat) : (⟨g, 0, none⟩ : Addr).add j = ⟨g, j, none⟩ := by unfold Addr.add; split <;> simp_all
theorem Rd.lt {w : World} {A : Option Addr} {cs : List Value} (h : Rd w A cs) (hn : cs ≠ []) : ∀ ad, A = some ad → ad.block < w.heap.size := by
  intro ad ha
  obtain ⟨ad', ha', hc⟩ := h.at_ (j := 0) (List.length_pos_iff.2 hn)
  rw [ha] at ha'
  cases ha'
  have := World.block_lt_of_cell? w _ hc
  rwa [addr_add_block] at this
/-- A cut. -/
def cutA (A : Option Addr) (m l : Nat) : Option Addr := if m = l then A else A.map (·.add l)
theorem Rd.cut {w : World} {A : Option Addr} {cs : List Value} (h : Rd w A cs) (m l n : Nat) (hm : l + n ≤ m) : Rd w (cutA A m l) ((cs.drop l).take n) := fun j u hu => by
  rw [List.getElem?_take] at hu
  split at hu
  · rename_i hj
    rw [List.getElem?_drop] at hu
    obtain ⟨ad, ha, hc⟩ := h _ u hu
    subst ha
    refine ⟨ad.add l, ?_, by rw [addr_add_add]; exact hc⟩
    unfold cutA
    rw [if_neg (by omega)]
    rfl
  · cases hu

/-! ## Bytes -/
def bv (b : UInt8) : Value := .int .u8 (b.toNat : Int)
def Bs (w : World) (A : Option Addr) (l : List UInt8) : Prop := Rd w A (l.map bv)
theorem Bs.ext {w w' : World} {A : Option Addr} {l : List UInt8} (h : Bs w A l) (he : Ext w w') : Bs w' A l := Rd.ext h he
theorem Bs.nil (w : World) (A : Option Addr) : Bs w A [] := Rd.nil w A
theorem Bs.at_ {w : World} {A : Option Addr} {l : List UInt8} (h : Bs w A l) {j : Nat} (hj : j < l.length) : ∃ ad, A = some ad ∧ w.cell? (ad.add j) = some (bv l[j]) := by
  obtain ⟨ad, ha, hc⟩ := Rd.at_ h (j := j) (by simpa using hj)
  exact ⟨ad, ha, by simpa using hc⟩
theorem Bs.cut {w : World} {A : Option Addr} {l : List UInt8} (h : Bs w A l) (m lo n : Nat) (hm : lo + n ≤ m) : Bs w (cutA A m lo) ((l.drop lo).take n) := by
  unfold Bs
  rw [List.map_take, List.map_drop]
  exact Rd.cut h m lo n hm

/-! ## Blocks known whole -/
def Blk (w : World) (g : Nat) (t : TypeId) (cs : Array Value) : Prop := w.heap[g]? = some (.cells cs t (0, 0))
section
variable {w w' : World} {g : Nat} {t : TypeId} {cs : Array Value}
theorem Blk.lt (h : Blk w g t cs) : g < w.heap.size := by
  rcases Nat.lt_or_ge g w.heap.size with hlt | hge
  · exact hlt
  · unfold Blk at h; rw [Array.getElem?_eq_none hge] at h; cases h
theorem Blk.cell (h : Blk w g t cs) (i : Nat) : w.cell? ⟨g, i, none⟩ = cs[i]? := cell_of_row w g i cs t (0, 0) h
theorem Blk.frozen (h : Blk w g t cs) (i : Nat) : w.frozen? ⟨g, i, none⟩ = false := by
  unfold Blk at h
  simp [World.frozen?, h]
theorem Blk.new (w : World) (t : TypeId) (cs : Array Value) : Blk (w.alloc (.cells cs t)) w.heap.size t cs := heap_alloc_new w _
theorem Blk.ext (h : Blk w g t cs) (he : Ext w w') : Blk w' g t cs := (he.block g h.lt).trans h
theorem Blk.below {B : Nat} (h : Blk w g t cs) (hb : Below B w w') (hg : g < B) : Blk w' g t cs := (hb.block g hg).trans h
theorem Blk.set_ (h : Blk w g t cs) (i : Nat) (u : Value) : Blk (w.setCell ⟨g, i, none⟩ u) g t (cs.setIfInBounds i u) := by
  unfold Blk at h ⊢
  simp [World.setCell, Array.getElem?_modify, h]
theorem Blk.only {g' : Nat} (h : Blk w g t cs) (ho : w.grownBy w' (some g')) (hne : g ≠ g') : Blk w' g t cs := (ho.block g h.lt (by simpa using hne)).trans h
theorem Blk.rd (h : Blk w g t cs) : Rd w (some ⟨g, 0, none⟩) cs.toList := fun j u hu => ⟨_, rfl, by rw [add0, h.cell]; simpa using hu⟩
/-- A block as an owned row. -/
theorem Blk.own (h : Blk w g t cs) {base : Nat} (hb : base ≤ g) (hm : cs.size ≤ maxLen) : w.ownsRow base t 1 (.slice (some ⟨g, 0, none⟩) cs.size cs.size) cs.size cs.toList :=
  ⟨by simp, .inr ⟨g, cs.size, cs, rfl, hb, h, Nat.le_refl _, hm, by simp, by rw [List.take_of_length_le (by simp)]⟩⟩
end
theorem only_set (w : World) (g i : Nat) (u : Value) : w.grownBy (w.setCell ⟨g, i, none⟩ u) (some g) :=
  ⟨rfl, rfl, rfl, by simp, fun k hk hne => heap_setCell_other w ⟨g, i, none⟩ k u (fun e => hne (by simp [e]))⟩
theorem only_below {w w' : World} {g B : Nat} (h : w.grownBy w' (some g)) (hB : B ≤ g) (hw : B ≤ w.heap.size) : Below B w w' :=
  ⟨h.os, h.tape, h.output, h.size, fun k hk => h.block k (by omega) (by simp; omega)⟩
theorem below_only {w0 w w' : World} {g B : Nat} (hb : Below B w0 w) (h : w.grownBy w' (some g)) (hB : B ≤ g) (hw : B ≤ w.heap.size) : Below B w0 w' := hb.trans (only_below h hB hw)
theorem Rd.only {w w' : World} {A : Option Addr} {cs : List Value} {g B : Nat} (h : Rd w A cs) (hA : ∀ ad, A = some ad → ad.block < B) (ho : w.grownBy w' (some g)) (hB : B ≤ g) (hw : B ≤ w.heap.size) : Rd w' A cs := h.below hA (only_below ho hB hw)

/-! ## Fresh rows -/
theorem own_rd {w : World} {base : Nat} {T : TypeId} {A : Option Addr} {n c : Nat} {xs : List Value} (h : w.ownsRow base T 1 (.slice A n c) n xs) : Rd w A xs := by
  intro j u hu
  rcases h.2 with ⟨h', h0⟩ | ⟨g, cap, cur, hv, _⟩
  · subst h0
    have := h.1
    have hx : xs = [] := List.eq_nil_of_length_eq_zero (by simpa using this)
    subst hx
    simp at hu
  · have hA : A = some ⟨g, 0, none⟩ := by injection hv
    subst hA
    exact ⟨_, rfl, h.cells (g := g) rfl j u hu⟩
theorem own_cap {w : World} {base : Nat} {T : TypeId} {A : Option Addr} {n c : Nat} {xs : List Value} (h : w.ownsRow base T 1 (.slice A n c) n xs) : n ≤ c ∧ c ≤ maxLen := by
  rcases h.2 with ⟨h', h0⟩ | ⟨g, cap, cur, hv, _, _, hn, hm, _⟩
  · injection h' with _ _ hc
    subst h0; subst hc
    exact ⟨Nat.le_refl _, by unfold maxLen; omega⟩
  · injection hv with _ _ hc
    subst hc
    exact ⟨hn, hm⟩
theorem own_ext {w w' : World} {base : Nat} {T : TypeId} {v : Value} {n : Nat} {xs : List Value} (h : w.ownsRow base T 1 v n xs) (he : Ext w w') : w'.ownsRow base T 1 v n xs := by
  refine ⟨h.1, ?_⟩
  rcases h.2 with hl | ⟨g, cap, cur, hv, hb, hg, hr⟩
  · exact .inl hl
  · exact .inr ⟨g, cap, cur, hv, hb, (Blk.ext (t := T) hg he), hr⟩
theorem own_mono {w : World} {base base' : Nat} {T : TypeId} {v : Value} {n : Nat} {xs : List Value} (h : w.ownsRow base T 1 v n xs) (hb : base' ≤ base) : w.ownsRow base' T 1 v n xs := by
  refine ⟨h.1, ?_⟩
  rcases h.2 with hl | ⟨g, cap, cur, hv, hg, hr⟩
  · exact .inl hl
  · exact .inr ⟨g, cap, cur, hv, Nat.le_trans hb hg, hr⟩
theorem own_block {w : World} {base : Nat} {T : TypeId} {A : Option Addr} {n c : Nat} {xs : List Value} (h : w.ownsRow base T 1 (.slice A n c) n xs) : ∀ ad, A = some ad → base ≤ ad.block ∧ ad.block < w.heap.size := by
  intro ad ha
  subst ha
  exact h.lt ad.block rfl
/-- What is owned and not empty: its block. -/
theorem own_blk {w : World} {base : Nat} {T : TypeId} {A : Option Addr} {n c : Nat} {xs : List Value} (h : w.ownsRow base T 1 (.slice A n c) n xs) (hn : 0 < n) :
    ∃ g cur, A = some ⟨g, 0, none⟩ ∧ base ≤ g ∧ Blk w g T cur ∧ cur.size = c ∧ n ≤ c ∧ c ≤ maxLen ∧ cur.toList.take n = xs := by
  rcases h.2 with ⟨h', h0⟩ | ⟨g, cap, cur, hv, hb, hg, hnc, hm, hs, ht⟩
  · omega
  · injection hv with hA _ hc
    subst hc
    exact ⟨g, cur, hA, hb, hg, by simpa using hs, hnc, hm, by simpa using ht⟩
theorem own_of_blk {w : World} {base : Nat} {T : TypeId} {g c n : Nat} {cur : Array Value} {xs : List Value} (hb : base ≤ g) (hg : Blk w g T cur) (hc : cur.size = c) (hn : n ≤ c) (hm : c ≤ maxLen) (ht : cur.toList.take n = xs) :
    w.ownsRow base T 1 (.slice (some ⟨g, 0, none⟩) n c) n xs := by
  refine ⟨?_, .inr ⟨g, c, cur, rfl, hb, hg, hn, hm, by simpa using hc, by simpa using ht⟩⟩
  rw [← ht, List.length_take]
  simp
  omega

/-- Fresh bytes, and a world that only grew: what a function hands back that makes bytes. -/
structure Fresh (T : TypeId) (w w' : World) (A : Option Addr) (c : Nat) (l : List UInt8) : Prop where
  own : w'.ownsRow w.heap.size T 1 (.slice A l.length c) l.length (l.map bv)
  ext : Ext w w'
theorem Fresh.bs {T : TypeId} {w w' : World} {A : Option Addr} {c : Nat} {l : List UInt8} (h : Fresh T w w' A c l) : Bs w' A l := own_rd h.own
theorem Fresh.cap {T : TypeId} {w w' : World} {A : Option Addr} {c : Nat} {l : List UInt8} (h : Fresh T w w' A c l) : l.length ≤ c := (own_cap h.own).1
theorem Fresh.back {T : TypeId} {w0 w w' : World} {A : Option Addr} {c : Nat} {l : List UInt8} (h : Fresh T w w' A c l) (he : Ext w0 w) : Fresh T w0 w' A c l := ⟨own_mono h.own he.size, he.trans' h.ext⟩
def RetBs (T : TypeId) (w : World) (l : List UInt8) : Ending → World → Prop := fun en w' => ∃ A c, en = .returned (.slice A l.length c) ∧ Fresh T w w' A c l
def RetV (w : World) (v : Value) : Ending → World → Prop := fun en w' => en = .returned v ∧ Ext w w'

/-! ## Operations -/
def OneT (P : Program) (t : TypeId) : Prop := ∃ z b, (P.info? t).map (fun i => (i.zero, i.size, i.bytes)) = some (some z, 1, b) ∧ z.cells.size = 1 ∧ (isAgg t).run P default = .ok false default
theorem OneT.agg {P : Program} {t : TypeId} (h : OneT P t) (w : World) : (isAgg t).run P w = .ok false w := by
  obtain ⟨z, b, _, _, h⟩ := h
  revert h
  simp only [isAgg, underlying, program]
  cases hu : P.underlying t with
  | none => intro h; simp [Sem.run_bind, Sem.run, hu, stuck] at h
  | some d => cases d <;> intro h <;> simp [Sem.run_bind, Sem.run, hu] at h ⊢
theorem typeInfo_run {P : Program} {t : TypeId} {i : TypeInfo} {w : World} (h : P.info? t = some i) : (typeInfo t).run P w = .ok i w := by simp [typeInfo, h]
theorem OneT.info {P : Program} {t : TypeId} (h : OneT P t) : ∃ i z, P.info? t = some i ∧ i.size = 1 ∧ i.zero = some z ∧ z.cells.size = 1 := by
  obtain ⟨z, b, h, hz, _⟩ := h
  cases hi : P.info? t with
  | none => rw [hi] at h; cases h
  | some i =>
    rw [hi] at h
    simp at h
    exact ⟨i, z, rfl, h.2.1, h.1, hz⟩
section
variable {P : Program} {ops : Array Oper} {Q : Exit → (Nat → Value) → World → Prop} {rest : List Oper} {e : Nat → Value} {w : World} {d : Tmp} {ty : TypeId} {pos : String} {aft : Array Edge}
theorem OW_load1 {x : Operand} {t : TypeId} {ad : Addr} (ht : OneT P t) (hx : ev e x = .pointer (some ad)) (v : Value) (hc : w.cell? ad = some v) (h : OW P ops Q rest (upd e d v) w) : OW P ops Q (⟨some d, .load t x, ty, pos, aft, none⟩ :: rest) e w := by
  refine OW_val v rfl ?_ h
  have hl : (loadVar t ad).run P w = .ok v w := by
    simp [loadVar, Sem.run_bind, ht.agg w, load, Sem.run, hc]
  simp [execOp, hx, Instr.loadAt, Instr.sureAddr, hl]
theorem run_store1 {t : TypeId} {ad : Addr} (ht : OneT P t) {v u : Value} (hv : v.oneCell' = true) (hc : w.cell? ad = some u) (hf : w.frozen? ad = false) : (storeVar t ad v).run P w = .ok () (w.setCell ad v) := by
  obtain ⟨i, z, hi, hs, _, _⟩ := ht.info
  have ha : ad.add 0 = ad := rfl
  cases v <;> first
    | (simp [Value.oneCell'] at hv; done)
    | (simp [storeVar, sizeOf, typeInfo, program, Sem.run, hi, hs, Value.cells, storeCells, store, ha, hc, hf])
theorem OW_store1 {x y : Operand} {t : TypeId} {ad : Addr} (ht : OneT P t) (hx : ev e x = .pointer (some ad)) (v u : Value) (hy : ev e y = v) (hv : v.oneCell' = true) (hc : w.cell? ad = some u) (hf : w.frozen? ad = false) (h : OW P ops Q rest e (w.setCell ad v)) :
    OW P ops Q (⟨none, .store t x y, ty, pos, aft, none⟩ :: rest) e w := by
  refine OW_unit _ rfl rfl ?_ h
  simp [execOp, hx, hy, Instr.storeAt, Instr.sureAddr, run_store1 ht hv hc hf]
/-- A store into a block of the call's own. -/
theorem OW_storeB {x y : Operand} {t T : TypeId} {g i : Nat} {cs : Array Value} (ht : OneT P t) (hx : ev e x = .pointer (some ⟨g, i, none⟩)) (v : Value) (hy : ev e y = v) (hv : v.oneCell' = true) (hb : Blk w g T cs) (hi : i < cs.size)
    (h : ∀ w', Blk w' g T (cs.setIfInBounds i v) → w.grownBy w' (some g) → OW P ops Q rest e w') :
    OW P ops Q (⟨none, .store t x y, ty, pos, aft, none⟩ :: rest) e w :=
  OW_store1 ht hx v cs[i] hy hv (by rw [hb.cell]; simp [hi]) (hb.frozen i) (h _ (hb.set_ i v) (only_set w g i v))
theorem OW_idxS {x y : Operand} {t el : TypeId} {ad : Addr} {n c : Nat} {k : IntKind} {j : Int} (ht : P.underlying t = some (.slice el)) (hel : OneT P el) (hx : ev e x = .slice (some ad) n c) (hy : ev e y = .int k j) (jN : Nat) (hj : j = (jN : Int)) (hn : jN < n)
    (h : OW P ops Q rest (upd e d (.pointer (some (ad.add jN)))) w) : OW P ops Q (⟨some d, .indexAddr t x y, ty, pos, aft, none⟩ :: rest) e w := by
  refine OW_val _ rfl ?_ h
  obtain ⟨i, z, hi, hs, _, _⟩ := hel.info
  subst hj
  have h1 : (0 : Int) ≤ (jN : Int) ∧ (jN : Int) < (n : Int) := by omega
  simp [execOp, hx, hy, Instr.indexAt, asIntOf, run_underlying ht, sizeOf, typeInfo, hi, hs, hn]
theorem OW_idxA {x y : Operand} {t el : TypeId} {ad : Addr} {n : Nat} {k : IntKind} {j : Int} (ht : P.underlying t = some (.array n el)) (hel : OneT P el) (hx : ev e x = .pointer (some ad)) (hy : ev e y = .int k j) (jN : Nat) (hj : j = (jN : Int)) (hn : jN < n)
    (h : OW P ops Q rest (upd e d (.pointer (some (ad.add jN)))) w) : OW P ops Q (⟨some d, .indexAddr t x y, ty, pos, aft, none⟩ :: rest) e w := by
  refine OW_val _ rfl ?_ h
  obtain ⟨i, z, hi, hs, _, _⟩ := hel.info
  subst hj
  simp [execOp, hx, hy, Instr.indexAt, Instr.sureAddr, asIntOf, run_underlying ht, sizeOf, typeInfo, hi, hs, hn]
/-- A bound of a cut. -/
def bnd (e : Nat → Value) (x : Option Operand) (dflt v : Int) : Prop := match x with | some o => ∃ k, ev e o = .int k v | none => v = dflt
theorem run_bnd {x : Operand} {v : Int} {y : Nat} {code : BoundsCode} {k : IntKind} (h : ev e x = .int k v) (h0 : 0 ≤ v ∧ v ≤ y) : (Instr.sliceBound (ev e x) y code).run P w = .ok v.toNat w := by
  simp [Instr.sliceBound, asIntOf, h, h0.1, h0.2]
theorem run_slice {t el : TypeId} {A : Option Addr} {n c : Nat} {lo hi mx : Option Operand} {lv hv mv : Int} (ht : P.underlying t = some (.slice el)) (hel : OneT P el)
    (hlo : bnd e lo 0 lv) (hhi : bnd e hi n hv) (hmx : bnd e mx c mv) (hmh : mx.isSome = true → hi.isSome = true) (hb : 0 ≤ lv ∧ lv ≤ hv ∧ hv ≤ mv ∧ mv ≤ c) :
    (Instr.sliceAt t (.slice A n c) (lo.map (ev e)) (hi.map (ev e)) (mx.map (ev e))).run P w = .ok (.slice (cutA A mv.toNat lv.toNat) (hv.toNat - lv.toNat) (mv.toNat - lv.toNat)) w := by
  obtain ⟨i, z, hi', hs, _, _⟩ := hel.info
  obtain ⟨b0, b1, b2, b3⟩ := hb
  have hvn : ((hv.toNat : Nat) : Int) = hv := by omega
  have hmn : ((mv.toNat : Nat) : Int) = mv := by omega
  have key : (Instr.sliceBounds true n c (lo.map (ev e)) (hi.map (ev e)) (mx.map (ev e))).run P w = .ok (lv.toNat, hv.toNat, mv.toNat) w := by
    cases mx with
    | none =>
      simp only [bnd] at hmx
      subst hmx
      cases hi with
      | none =>
        simp only [bnd] at hhi
        subst hhi
        cases lo with
        | none => simp only [bnd] at hlo; subst hlo; simp [Instr.sliceBounds]
        | some lo =>
          obtain ⟨k, hlo⟩ := hlo
          simp [Instr.sliceBounds, run_bnd (P := P) (w := w) (y := n) (code := .sliceB) hlo ⟨b0, by omega⟩]
      | some hi =>
        obtain ⟨k, hhi⟩ := hhi
        have r1 := run_bnd (P := P) (w := w) (y := c) (code := .sliceAcap) hhi ⟨by omega, by omega⟩
        cases lo with
        | none => simp only [bnd] at hlo; subst hlo; simp [Instr.sliceBounds, r1]
        | some lo =>
          obtain ⟨k, hlo⟩ := hlo
          simp [Instr.sliceBounds, r1, run_bnd (P := P) (w := w) (y := hv.toNat) (code := .sliceB) hlo ⟨b0, by omega⟩]
    | some mx =>
      obtain ⟨k, hmx⟩ := hmx
      have r0 := run_bnd (P := P) (w := w) (y := c) (code := .slice3Acap) hmx ⟨by omega, by omega⟩
      cases hi with
      | none => simp at hmh
      | some hi =>
        obtain ⟨k, hhi⟩ := hhi
        have r1 := run_bnd (P := P) (w := w) (y := mv.toNat) (code := .slice3B) hhi ⟨by omega, by omega⟩
        cases lo with
        | none => simp only [bnd] at hlo; subst hlo; simp [Instr.sliceBounds, r0, r1]
        | some lo =>
          obtain ⟨k, hlo⟩ := hlo
          simp [Instr.sliceBounds, r0, r1, run_bnd (P := P) (w := w) (y := hv.toNat) (code := .slice3C) hlo ⟨b0, by omega⟩]
  simp [Instr.sliceAt, Instr.slice, run_underlying ht, key, sizeOf, typeInfo, hi', hs, cutA]
theorem OW_slice {x : Operand} {t el : TypeId} {A : Option Addr} {n c : Nat} {lo hi mx : Option Operand} {lv hv mv : Int} (ht : P.underlying t = some (.slice el)) (hel : OneT P el) (hx : ev e x = .slice A n c)
    (hlo : bnd e lo 0 lv) (hhi : bnd e hi n hv) (hmx : bnd e mx c mv) (hmh : mx.isSome = true → hi.isSome = true) (hb : 0 ≤ lv ∧ lv ≤ hv ∧ hv ≤ mv ∧ mv ≤ c)
    (h : OW P ops Q rest (upd e d (.slice (cutA A mv.toNat lv.toNat) (hv.toNat - lv.toNat) (mv.toNat - lv.toNat))) w) : OW P ops Q (⟨some d, .slice t x lo hi mx, ty, pos, aft, none⟩ :: rest) e w := by
  refine OW_val _ rfl ?_ h
  simp [execOp, hx, run_slice ht hel hlo hhi hmx hmh hb]
/-- A cut of bytes that are only read: its place gets a name. -/
theorem OW_sliceBs {x : Operand} {t el : TypeId} {A : Option Addr} {n c : Nat} {l : List UInt8} {lo hi : Option Operand} {lv hv : Int} (ht : P.underlying t = some (.slice el)) (hel : OneT P el) (hbs : Bs w A l) (hn : n = l.length) (hc : n ≤ c) (hx : ev e x = .slice A n c)
    (hlo : bnd e lo 0 lv) (hhi : bnd e hi n hv) (lN hN : Nat) (hl : lv = (lN : Int)) (hh : hv = (hN : Int)) (hb : lN ≤ hN ∧ hN ≤ n)
    (h : ∀ A', Bs w A' ((l.drop lN).take (hN - lN)) → ((l.drop lN).take (hN - lN)).length = hN - lN → OW P ops Q rest (upd e d (.slice A' (hN - lN) (c - lN))) w) : OW P ops Q (⟨some d, .slice t x lo hi none, ty, pos, aft, none⟩ :: rest) e w := by
  subst hl; subst hh
  have := h (cutA A c lN) (hbs.cut c lN (hN - lN) (by omega)) (by simp; omega)
  exact OW_slice (mx := none) (mv := c) ht hel hx hlo hhi rfl (fun h => by cases h) (by omega) (by simpa using this)
/-- make([]T, n). -/
theorem OW_make {x y : Operand} {t el : TypeId} {z : Value} {b : Nat} {n : Nat} {k k' : IntKind} {j j' : Int} (ht : P.underlying t = some (.slice el)) (hinfo : (P.info? el).map (fun i => (i.zero, i.size, i.bytes)) = some (some z, 1, b)) (hz : z.cells = #[z])
    (hx : ev e x = .int k j) (hy : ev e y = .int k' j') (hj : j = (n : Int)) (hj' : j' = (n : Int)) (hb : b * n ≤ 281474976710656) (hm : n ≤ maxLen)
    (h : ∀ w' g, Blk w' g el (Array.replicate n z) → w.heap.size ≤ g → Ext w w' → OW P ops Q rest (upd e d (.slice (some ⟨g, 0, none⟩) n n)) w') : OW P ops Q (⟨some d, .makeSlice t x y, ty, pos, aft, none⟩ :: rest) e w := by
  subst hj; subst hj'
  obtain ⟨i0, hi, h1, h2, h3⟩ := info_parts hinfo
  have hr := run_make (P := P) w t el i0 z ht hi h1 k k' n n (by omega) (by omega) (by rw [h3, ← Int.natCast_mul]; omega) (by unfold maxLen at hm; omega)
  have harr : madeCells z.cells (((n : Int)).toNat * i0.size) = Array.replicate n z := by
    apply Array.ext'
    rw [hz, h2, toList_madeCells_one]
    simp
  rw [harr] at hr
  simp only [Int.toNat_natCast] at hr
  refine OW_valw (.slice (some ⟨w.heap.size, 0, none⟩) n n) (w.alloc (.cells (Array.replicate n z) el)) rfl ?_ (h _ w.heap.size (Blk.new w el _) (Nat.le_refl _) (Ext.alloc' w _))
  simp [execOp, hx, hy, hr]
/-- append of a slice onto a row of the call's own. -/
theorem OW_append {x y : Operand} {t el : TypeId} {z : Value} {b : Nat} {base : Nat} {A A' : Option Addr} {n c m c' : Nat} {xs news : List Value} (ht : P.underlying t = some (.slice el)) (hinfo : (P.info? el).map (fun i => (i.zero, i.size, i.bytes)) = some (some z, 1, b)) (hz : z.cells.size = 1)
    (hx : ev e x = .slice A n c) (hy : ev e y = .slice A' m c') (hown : w.ownsRow base el 1 (.slice A n c) n xs) (hrd : Rd w A' news) (hl : news.length = m) (h1 : ∀ u ∈ news, u.oneCell' = true)
    (hm : n + m ≤ maxLen) (hb : (n + m) * b ≤ 140737488355328) (hbase : base ≤ w.heap.size)
    (h : ∀ w' A2 c2, w'.ownsRow base el 1 (.slice A2 (n + m) c2) (n + m) (xs ++ news) → Below base w w' → OW P ops Q rest (upd e d (.slice A2 (n + m) c2)) w') :
    OW P ops Q (⟨some d, .call { callee := .builtin .append, args := #[x, y], argTypes := #[t, t] }, ty, pos, aft, none⟩ :: rest) e w := by
  obtain ⟨i0, hi, hz1, h2, h3⟩ := info_parts hinfo
  have step : ∃ v' w', (Builtin.append_ #[t, t] ty #[.slice A n c, .slice A' m c']).run P w = .ok v' w' ∧ w'.ownsRow base el 1 v' (n + m) (xs ++ news) ∧ w.grownBy w' (Value.ownBlock (.slice A n c)) := by
    cases A' with
    | none =>
      have hn0 : news = [] := by
        cases news with
        | nil => rfl
        | cons u r => obtain ⟨ad, ha, _⟩ := hrd 0 u rfl; cases ha
      subst hn0
      have hm0 : m = 0 := by simpa using hl.symm
      subst hm0
      refine ⟨.slice A n c, w, ?_, by simpa using hown, World.grownBy.refl w _⟩
      rcases hown.2 with ⟨h', h0⟩ | ⟨g, cap, cur, hv, _, _, hnc, _⟩
      · injection h' with hA _ hc
        subst hA; subst h0; subst hc
        simp [Builtin.append_, run_underlying ht, sizeOf, typeInfo, hi, Builtin.lenOf, Builtin.firstCells]
      · injection hv with hA _ hc
        subst hA; subst hc
        simp [Builtin.append_, run_underlying ht, sizeOf, typeInfo, hi, Builtin.lenOf, Builtin.firstCells, hnc, storeCells]
    | some ad =>
      obtain ⟨v', w', hrun, g1, g2, _⟩ := run_append_own (P := P) w base t ty el i0 z 1 b ht hi hz1 h2 h3 hz (by decide) (.slice A n c) n xs hown ad m c' news (by simpa using hl)
        (fun j u hu => by obtain ⟨ad', ha, hc⟩ := hrd j u hu; cases ha; exact hc) h1 hm hb hbase
      exact ⟨v', w', hrun, g1, g2⟩
  obtain ⟨v', w', hrun, g1, g2⟩ := step
  have hform : ∃ A2 c2, v' = .slice A2 (n + m) c2 := by
    rcases g1.2 with ⟨h', h0⟩ | ⟨g, cap, cur, hv, _⟩
    · exact ⟨none, 0, by rw [h', h0]⟩
    · exact ⟨_, _, hv⟩
  obtain ⟨A2, c2, rfl⟩ := hform
  refine OW_valw (.slice A2 (n + m) c2) w' rfl ?_ (h w' A2 c2 g1 ((Below.refl base w).grown g2 hbase (fun k hk => (hown.lt k hk).1)))
  simp [execOp, resolve, invoke, builtin, hx, hy, hrun]
/-- A literal slice. -/
def idxParts : List Value → Nat → List (Nat × Value)
  | [], _ => []
  | v :: l, k => (k, v) :: idxParts l (k + 1)
theorem cells_one {v : Value} (h : v.oneCell' = true) : v.cells = #[v] := by cases v <;> first | rfl | (simp [Value.oneCell'] at h)
theorem fill_parts : ∀ (vs : List Value) (k : Nat) (cs : Array Value), (∀ v ∈ vs, v.oneCell' = true) → cs.size = k + vs.length → Instr.fill (fun i => some (i * 1, 1)) cs (idxParts vs k) = some (cs.toList.take k ++ vs).toArray
  | [], k, cs, _, hs => by
    simp only [idxParts, Instr.fill, List.append_nil]
    rw [List.take_of_length_le (by simp at hs ⊢; omega)]
  | v :: vs, k, cs, h1, hs => by
    have hv := cells_one (h1 v List.mem_cons_self)
    simp only [List.length_cons] at hs
    have ih := fill_parts vs (k + 1) (cs.setIfInBounds k v) (fun u hu => h1 u (List.mem_cons_of_mem _ hu)) (by simp; omega)
    unfold idxParts Instr.fill
    simp only [hv]
    have hc : ¬ ((decide ((#[v] : Array Value).size ≠ 1) || decide (k * 1 + (#[v] : Array Value).size > cs.size)) = true) := by simp; omega
    rw [if_neg hc]
    have hf : (#[v] : Array Value).zipIdx.foldl (fun cs x => cs.setIfInBounds (k * 1 + x.2) x.1) cs = cs.setIfInBounds k v := by simp
    have : ((cs.setIfInBounds k v).toList.take (k + 1) ++ vs) = (cs.toList.take k ++ v :: vs) := by
      rw [Array.toList_setIfInBounds, List.take_succ_eq_append_getElem (by simp; omega)]
      simp [List.take_set_of_le]
    rw [this] at ih
    exact hf ▸ ih
theorem OW_lit {t el : TypeId} {n : Nat} {parts : Array (Nat × Operand)} {z : Value} {b : Nat} (vs : List Value) (ht : P.underlying t = some (.slice el)) (hinfo : (P.info? el).map (fun i => (i.zero, i.size, i.bytes)) = some (some z, 1, b))
    (hp : parts.toList.map (fun x => (x.1, ev e x.2)) = idxParts vs 0) (hn : n = vs.length) (h1 : ∀ v ∈ vs, v.oneCell' = true) (hlt : n ≤ 1000)
    (h : ∀ w' g, Blk w' g el vs.toArray → w.heap.size ≤ g → Ext w w' → OW P ops Q rest (upd e d (.slice (some ⟨g, 0, none⟩) n n)) w') : OW P ops Q (⟨some d, .buildSlice t n parts, ty, pos, aft, none⟩ :: rest) e w := by
  obtain ⟨i0, hi, hz, h2, h3⟩ := info_parts hinfo
  refine OW_valw (.slice (some ⟨w.heap.size, 0, none⟩) n n) (w.alloc (.cells vs.toArray el)) rfl ?_ (h _ w.heap.size (Blk.new w el _) (Nat.le_refl _) (Ext.alloc' w _))
  have hpp : (parts.map fun x => (x.1, ev e x.2)).toList = idxParts vs 0 := by rw [Array.toList_map]; exact hp
  have hbig : ¬ (n * 1 > 2 ^ 24) := by omega
  have key : ∀ zs : Array Value, zs.size = n → Instr.fill (fun i => some (i * 1, 1)) zs (parts.map fun x => (x.1, ev e x.2)).toList = some vs.toArray := fun zs hz => by
    rw [hpp, fill_parts vs 0 zs h1 (by rw [hz, hn]; simp)]
    simp
  have hrun : (Instr.buildSlice t n (parts.map fun x => (x.1, ev e x.2))).run P w = .ok (.slice (some ⟨w.heap.size, 0, none⟩) n n) (w.alloc (.cells vs.toArray el)) := by
    by_cases h0 : n * 1 = 0
    · simp only [Instr.buildSlice, Sem.run_bind, run_underlying ht, Result.andThen_ok, sizeOf, typeInfo_run hi, h2, Sem.run_pure, if_neg hbig, if_pos h0, key _ (show (Array.map (fun x => (#[] : Array Value)[x % (#[] : Array Value).size]!) (Array.range (n * 1))).size = n by simp)]
      rfl
    · simp only [Instr.buildSlice, Sem.run_bind, run_underlying ht, Result.andThen_ok, sizeOf, typeInfo_run hi, h2, Sem.run_pure, if_neg hbig, if_neg h0, zeroValue, hz, key _ (show (Array.map (fun x => z.cells[x % z.cells.size]!) (Array.range (n * 1))).size = n by simp)]
      rfl
  simp only [execOp, Sem.run_bind]
  rw [show (parts.map fun (x : Nat × Operand) => match x with | (i, x) => (i, ev e x)) = parts.map fun x => (x.1, ev e x.2) from rfl, hrun]
  rfl
/-- A call that hands back fresh bytes. -/
theorem OW_callBs {f : FuncId} {fn : Func} {args : List Operand} {args' : List Value} {tys : Array TypeId} {T : TypeId} {l : List UInt8} (hf : P.funcs[f]? = some fn) (hn : (fn.name == "runtime.NumGoroutine") = false) (hb : fn.body.isNone = false)
    (hc : Calls P f args'.toArray w (RetBs T w l)) (ha : args.map (ev e) = args') (h : ∀ w' A c, Fresh T w w' A c l → OW P ops Q rest (upd e d (.slice A l.length c)) w') :
    OW P ops Q (⟨some d, .call { callee := .value (.func f), args := args.toArray, argTypes := tys }, ty, pos, aft, none⟩ :: rest) e w :=
  OW_callC hf hn hb hc ha fun en w' ⟨A, c, he, hf⟩ => ⟨_, he, h w' A c hf⟩
/-- The first append, onto nil. -/
theorem OW_append0 {x y : Operand} {t el : TypeId} {z : Value} {b : Nat} {base : Nat} {A' : Option Addr} {m c' : Nat} {news : List Value} (ht : P.underlying t = some (.slice el)) (hinfo : (P.info? el).map (fun i => (i.zero, i.size, i.bytes)) = some (some z, 1, b)) (hz : z.cells.size = 1)
    (hx : ev e x = .slice none 0 0) (hy : ev e y = .slice A' m c') (hrd : Rd w A' news) (hl : news.length = m) (h1 : ∀ u ∈ news, u.oneCell' = true)
    (hm : m ≤ maxLen) (hb : m * b ≤ 140737488355328) (hbase : base ≤ w.heap.size)
    (h : ∀ w' A2 c2, w'.ownsRow base el 1 (.slice A2 m c2) m news → Below base w w' → OW P ops Q rest (upd e d (.slice A2 m c2)) w') :
    OW P ops Q (⟨some d, .call { callee := .builtin .append, args := #[x, y], argTypes := #[t, t] }, ty, pos, aft, none⟩ :: rest) e w :=
  OW_append ht hinfo hz hx hy (World.ownsRow_nil w base el 1) hrd hl h1 (by omega) (by rw [Nat.zero_add]; exact hb) hbase fun w' A2 c2 ho hb => by
    rw [Nat.zero_add, List.nil_append] at ho
    rw [Nat.zero_add]
    exact h w' A2 c2 ho hb
end
theorem bv_one (l : List UInt8) : ∀ u ∈ l.map bv, u.oneCell' = true := by
  intro u hu
  obtain ⟨b, _, rfl⟩ := List.mem_map.1 hu
  rfl
end Go.Proofs.Ytnfeibbnjdegfaa

/- Regions whose order is drawn: one walk in the text's order serves every order, where each operation yields one value in every world that only grew; and the same ahead of a tail that must come last. -/
namespace Go.Proofs.Ytnfeibbnjdegfaa
open Go Go.RowKit
set_option linter.unusedVariables false

/-- An operation yields 'v' in every world of a class, and leaves the world; or is a call that leaves one of the class. -/
def OD (P : Program) (ops : Array Oper) (C : World → Prop) (Q : (Nat → Value) → Prop) : List Oper → (Nat → Value) → Prop
  | [], e => Q e
  | o :: rest, e => if wantedE ops e o then ∃ v, (∀ w, C w → Oper.quietUpon P C w v ((execOp (ev e) o).run P w)) ∧ OD P ops C Q rest (put e o.dst v) else OD P ops C Q rest (put e o.dst undef)

theorem wpQuiet_of_OD {P : Program} {ops : Array Oper} {n : Nat} {C : World → Prop} {Q : (Nat → Value) → Prop} : ∀ (l : List Oper) {a : Act} {e : Nat → Value},
    dstsIn n l = true → St n a e → OD P ops C Q l e → wpQuiet P ops C (fun a => ∃ e, St n a e ∧ Q e) l a
  | [], _, e, _, hs, h => ⟨e, hs, h⟩
  | o :: l, a, e, hd, hs, h => by
    obtain ⟨hd0, hd1⟩ := dstsIn_cons hd
    unfold wpQuiet
    rw [wanted_eq hs]
    unfold OD at h
    split
    · rename_i hw
      rw [if_pos hw] at h
      obtain ⟨v, h1, h2⟩ := h
      refine ⟨v, fun w hw => ?_, wpQuiet_of_OD l hd1 (hs.put hd0 v) h2⟩
      unfold Oper.quietAt
      rw [hs.ev]
      exact h1 w hw
    · rename_i hw
      rw [if_neg hw] at h
      exact wpQuiet_of_OD l hd1 (hs.put hd0 undef) h
theorem wpStill_of_OD {P : Program} {ops : Array Oper} {n : Nat} {w : World} {Q : (Nat → Value) → Prop} : ∀ (l : List Oper) {a : Act} {e : Nat → Value},
    dstsIn n l = true → St n a e → OD P ops (fun w' => w' = w) Q l e → wpStill P ops w (fun a => ∃ e, St n a e ∧ Q e) l a
  | [], _, e, _, hs, h => ⟨e, hs, h⟩
  | o :: l, a, e, hd, hs, h => by
    obtain ⟨hd0, hd1⟩ := dstsIn_cons hd
    unfold wpStill
    rw [wanted_eq hs]
    unfold OD at h
    split
    · rename_i hw
      rw [if_pos hw] at h
      obtain ⟨v, h1, h2⟩ := h
      have h1 := h1 w rfl
      have hn := wpStill_of_OD l hd1 (hs.put hd0 v) h2
      unfold Oper.still
      rw [hs.ev]
      generalize (execOp (ev e) o).run P w = r at *
      cases r with
      | ok x w' =>
        cases x <;> simp only [Oper.quietUpon] at h1 <;> simp only [Oper.stillUpon]
        case value u => obtain ⟨rfl, rfl⟩ := h1; exact ⟨rfl, hn⟩
        case skip => obtain ⟨rfl, rfl⟩ := h1; exact ⟨rfl, hn⟩
        case enter f args => obtain ⟨rfl, hc⟩ := h1; exact ⟨rfl, v, hc, hn⟩
      | halt x w' => simp only [Oper.quietUpon] at h1
    · rename_i hw
      rw [if_neg hw] at h
      exact wpStill_of_OD l hd1 (hs.put hd0 undef) h
theorem wpStill_mono {P : Program} {ops : Array Oper} {w : World} {Q Q' : Act → Prop} (hq : ∀ a, Q a → Q' a) : ∀ (l : List Oper) {a : Act}, wpStill P ops w Q l a → wpStill P ops w Q' l a
  | [], a, h => hq a h
  | o :: l, a, h => by
    unfold wpStill at h ⊢
    split
    · rename_i hw; rw [if_pos hw] at h; exact Oper.still_mono (fun a ha => wpStill_mono hq l ha) h
    · rename_i hw; rw [if_neg hw] at h; exact wpStill_mono hq l h

section
variable {P : Program} {n : Nat} {Q : Exit → (Nat → Value) → World → Prop} {e : Nat → Value} {w : World}
theorem CW_draw {id : Nat} {l : List Oper} (hm : P.follows .mixedOrders = true) (hB : Region.lexB .any l.toArray = true) (hd : dstsIn n l = true)
    (h : OD P l.toArray (fun w' => Ext w w') (fun e' => ∀ w', Ext w w' → Q .normal e' w') l e) : CW P n (.region id l.toArray true) Q e w := by
  unfold CW
  intro a hs
  refine wp_region_quiet (C := fun w' => Ext w w') hm hB (Ext.drew' w) ?_
  have := wpQuiet_of_OD l hd hs h
  have hmono : ∀ (l : List Oper) (a : Act), wpQuiet P l.toArray (fun w' => Ext w w') (fun a => ∃ e, St n a e ∧ ∀ w', Ext w w' → Q .normal e w') l a → True := fun _ _ _ => trivial
  have key : ∀ (ops : Array Oper) (l : List Oper) (a : Act), wpQuiet P ops (fun w' => Ext w w') (fun a => ∃ e, St n a e ∧ ∀ w', Ext w w' → Q .normal e w') l a →
      wpQuiet P ops (fun w' => Ext w w') (fun a' => ∀ w', Ext w w' → QA n Q .normal a' w') l a := by
    intro ops l
    induction l with
    | nil => intro a ⟨e, hs, h⟩ w' hw; exact ⟨e, hs, h w' hw⟩
    | cons o l ih =>
      intro a h
      unfold wpQuiet at h ⊢
      split
      · rename_i hw; rw [if_pos hw] at h; exact Oper.quiet_mono (fun a ha => ih a ha) h
      · rename_i hw; rw [if_neg hw] at h; exact ih _ h
  exact key _ _ _ this
theorem CW_tail {id : Nat} {l : List Oper} (k : Nat) (hm : P.follows .mixedOrders = true) (hB : Region.lexTailB .any l.toArray k = true) (hd : dstsIn n l = true)
    (h : OD P l.toArray (fun w' => w' = w.drew) (fun e' => OW P l.toArray Q (l.drop k) e' w.drew) (l.take k) e) : CW P n (.region id l.toArray true) Q e w := by
  unfold CW
  intro a hs
  refine wp_region_still_tail k hm hB ?_
  have hd1 : dstsIn n (l.take k) = true := by
    unfold dstsIn at hd ⊢
    rw [List.all_eq_true] at hd ⊢
    exact fun o ho => hd o (List.mem_of_mem_take ho)
  have hd2 : dstsIn n (l.drop k) = true := by
    unfold dstsIn at hd ⊢
    rw [List.all_eq_true] at hd ⊢
    exact fun o ho => hd o (List.mem_of_mem_drop ho)
  refine wpStill_mono ?_ _ (wpStill_of_OD (l.take k) hd1 hs h)
  rintro a' ⟨e', hs', h'⟩
  exact wpList_of_OW _ hd2 hs' h'
end
section
variable {P : Program} {ops : Array Oper} {C : World → Prop} {Q : (Nat → Value) → Prop} {rest : List Oper} {e : Nat → Value} {d : Tmp} {ty : TypeId} {pos : String} {aft : Array Edge}
theorem OD_nil (h : Q e) : OD P ops C Q [] e := h
theorem OD_take {dst : Option Tmp} {op : Op} {g : Nat × Bool} (hw : wantedE ops e ⟨dst, op, ty, pos, aft, some g⟩ = true) (h : OD P ops C Q (⟨dst, op, ty, pos, aft, none⟩ :: rest) e) : OD P ops C Q (⟨dst, op, ty, pos, aft, some g⟩ :: rest) e := by
  unfold OD at h ⊢
  rw [if_pos (by rfl)] at h
  rw [if_pos hw]
  exact h
theorem OD_pass {dst : Option Tmp} {op : Op} {g : Nat × Bool} (hw : wantedE ops e ⟨dst, op, ty, pos, aft, some g⟩ = false) (h : OD P ops C Q rest (put e dst undef)) : OD P ops C Q (⟨dst, op, ty, pos, aft, some g⟩ :: rest) e := by
  unfold OD
  rw [if_neg (by rw [hw]; simp)]
  exact h
theorem OD_split {l : List Oper} (s : Nat) (b : Bool) (hs : e s = .bool b) (ht : b = true → OD P ops C Q l (upd e s (.bool true))) (hf : b = false → OD P ops C Q l (upd e s (.bool false))) : OD P ops C Q l e := by
  cases b with
  | true => rw [upd_self hs]; exact ht rfl
  | false => rw [upd_self hs]; exact hf rfl
/-- What one operation is to come to. -/
def stay (e : Nat → Value) (d : Tmp) (v : Value) (w : World) : Exit → (Nat → Value) → World → Prop := fun x e' w' => x = .normal ∧ e' = upd e d v ∧ w' = w
theorem stay_mk (e : Nat → Value) (d : Tmp) (v : Value) (w : World) : stay e d v w .normal (upd e d v) w := ⟨rfl, rfl, rfl⟩
theorem OD_step {op : Op} (v : Value) (h1 : ∀ w, C w → OW P ops (stay e d v w) [⟨some d, op, ty, pos, aft, none⟩] e w) (h : OD P ops C Q rest (upd e d v)) : OD P ops C Q (⟨some d, op, ty, pos, aft, none⟩ :: rest) e := by
  unfold OD
  rw [if_pos (by rfl)]
  refine ⟨v, fun w hw => ?_, h⟩
  have hh := h1 w hw
  unfold OW at hh
  rw [if_pos (by rfl)] at hh
  have hinj : ∀ u, upd e d u = upd e d v → u = v := fun u hu => by
    have := congrFun hu d
    rwa [upd_same, upd_same] at this
  unfold opW at hh
  generalize (execOp (ev e) _).run P w = r at *
  cases r with
  | ok x w' =>
    cases x <;> simp only [opUpon] at hh <;> simp only [Oper.quietUpon]
    case value u => unfold OW at hh; exact ⟨hh.2.2, hinj _ hh.2.1⟩
    case skip => unfold OW at hh; exact ⟨hh.2.2, (hinj _ hh.2.1).symm⟩
    case enter f args =>
      obtain ⟨rfl, hc⟩ := hh
      refine ⟨rfl, hc.mono fun en w'' hx => ?_⟩
      obtain ⟨u, he, hx⟩ := hx
      unfold OW at hx
      rw [he, hinj _ hx.2.1, hx.2.2]
      exact ⟨rfl, hw⟩
  | halt x w' => simp only [opUpon] at hh
/-- A call in such a region. -/
theorem OD_call {f : FuncId} {fn : Func} {args : List Operand} {args' : List Value} {tys : Array TypeId} (v : Value) (hf : P.funcs[f]? = some fn) (hn : (fn.name == "runtime.NumGoroutine") = false) (hb : fn.body.isNone = false)
    (hc : ∀ w, C w → Calls P f args'.toArray w (fun en w' => en = .returned v ∧ C w')) (ha : args.map (ev e) = args') (h : OD P ops C Q rest (upd e d v)) :
    OD P ops C Q (⟨some d, .call { callee := .value (.func f), args := args.toArray, argTypes := tys }, ty, pos, aft, none⟩ :: rest) e := by
  unfold OD
  rw [if_pos (by rfl)]
  refine ⟨v, fun w hw => ?_, h⟩
  have h1 : (execOp (ev e) ⟨some d, .call { callee := .value (.func f), args := args.toArray, argTypes := tys }, ty, pos, aft, none⟩).run P w = .ok (.enter f args'.toArray) w := by
    subst ha
    have h1 : (callFunc f (args.toArray.map (ev e))).run P w = .ok (.enter f (args.toArray.map (ev e))) w := by
      simp only [callFunc, program]
      show Sem.run P (match P.funcs[f]? with | none => _ | some fn => _) w = _
      simp only [hf, hn, hb]
      rfl
    simpa [execOp, resolve, ev, Deferred.ofValue, invoke] using h1
  rw [h1]
  exact ⟨rfl, hc w hw⟩
end
attribute [irreducible] OD stay
end Go.Proofs.Ytnfeibbnjdegfaa

/- The types' rows of this seat's program. -/
namespace Go.Proofs.Ytnfeibbnjdegfaa
open Go Go.RowKit
theorem und_bytes : Try.prog.underlying 31 = some (.slice 5) := Try.underlying31
theorem und_bool : Try.prog.underlying 4 = some .bool := Try.underlying4
theorem und_u8 : Try.prog.underlying 5 = some (.int .u8) := Try.underlying5
theorem und_u32 : Try.prog.underlying 93 = some (.int .u32) := Try.underlying93
theorem und_u64 : Try.prog.underlying 106 = some (.int .u64) := Try.underlying106
theorem und_uint : Try.prog.underlying 130 = some (.int .u64) := Try.underlying130
theorem und_int : Try.prog.underlying 3 = some (.int .i64) := Try.underlying3
theorem und_bytess : Try.prog.underlying 22 = some (.slice 31) := Try.underlying22
theorem info_u8 : (Try.prog.info? 5).map (fun i => (i.zero, i.size, i.bytes)) = some (some (.int .u8 0), 1, 1) := by kernel_rfl
theorem one_u8 : OneT Try.prog 5 := ⟨.int .u8 0, 1, info_u8, rfl, by kernel_rfl⟩
theorem info_bytes : (Try.prog.info? 31).map (fun i => (i.zero, i.size, i.bytes)) = some (some (.slice none 0 0), 1, 24) := by kernel_rfl
theorem one_bytes : OneT Try.prog 31 := ⟨.slice none 0 0, 24, info_bytes, rfl, by kernel_rfl⟩
end Go.Proofs.Ytnfeibbnjdegfaa

/- Regions whose order is drawn, in general: each operation has a fact that lasts ('Phi'), shown from the facts of those that must come ahead of it; whatever order is drawn, all facts hold at the end. A tail that must come last is walked in its order. -/
namespace Go.Proofs.Ytnfeibbnjdegfaa
open Go Go.RowKit
set_option linter.unusedVariables false

abbrev Fact := Value → World → Prop
def isV (v : Value) : Fact := fun u _ => u = v
def isBs (l : List UInt8) : Fact := fun u w => ∃ A c, u = .slice A l.length c ∧ l.length ≤ c ∧ Bs w A l
def isAnyF : Fact := fun _ _ => True
def Lasts (φ : Fact) : Prop := ∀ v w w', Ext w w' → φ v w → φ v w'
theorem lasts_isV (v : Value) : Lasts (isV v) := fun _ _ _ _ h => h
theorem lasts_isAny : Lasts isAnyF := fun _ _ _ _ h => h
theorem lasts_isBs (l : List UInt8) : Lasts (isBs l) := fun v w w' he h => by
  obtain ⟨A, c, h1, h2, h3⟩ := h
  exact ⟨A, c, h1, h2, h3.ext he⟩

structure LFact where
  f : Fact
  last : Lasts f
def vF (v : Value) : LFact := ⟨isV v, lasts_isV v⟩
def bF (l : List UInt8) : LFact := ⟨isBs l, lasts_isBs l⟩
def aF : LFact := ⟨isAnyF, lasts_isAny⟩
def dstsOf (l : List Oper) : List Nat := l.filterMap (·.dst)
def acycB (l : List Oper) : Bool := l.zipIdx.all fun x => x.1.after.all fun e => !Region.binds .any e || decide (e.on < x.2)
def nodupB : List Nat → Bool
  | [] => true
  | a :: l => !l.contains a && nodupB l

/-- What is known when operation 'o' comes up. -/
structure Known (ops : Array Oper) (ds : List Nat) (Φ : Nat → Fact) (e0 : Nat → Value) (w0 : World) (o : Oper) (e : Nat → Value) (w : World) : Prop where
  ext : Ext w0 w
  out : ∀ s, ds.contains s = false → e s = e0 s
  pre : ∀ (k : Nat) (d : Tmp), (o.after.toList.any fun ed => Region.binds .any ed && ed.on == k) = true → ((ops[k]?).bind (·.dst)) = some d → Φ k (e d) w
def Obl (P : Program) (ops : Array Oper) (ds : List Nat) (Φ : Nat → Fact) (e0 : Nat → Value) (w0 : World) (i : Nat) (o : Oper) : Prop :=
  ∀ e w, Known ops ds Φ e0 w0 o e w → if wantedE ops e o then opW P o e w (fun v w' => Ext w w' ∧ Φ i v w') else Φ i undef w
def Obls (P : Program) (ops : Array Oper) (ds : List Nat) (Φ : Nat → Fact) (e0 : Nat → Value) (w0 : World) : List Oper → Nat → Prop
  | [], _ => True
  | o :: l, i => Obl P ops ds Φ e0 w0 i o ∧ Obls P ops ds Φ e0 w0 l (i + 1)
theorem Obls.at_ {P : Program} {ops : Array Oper} {ds : List Nat} {Φ : Nat → Fact} {e0 : Nat → Value} {w0 : World} : ∀ {l : List Oper} {k : Nat}, Obls P ops ds Φ e0 w0 l k → ∀ (i : Nat) (o : Oper), l[i]? = some o → Obl P ops ds Φ e0 w0 (k + i) o
  | [], _, _, i, o, h => by simp at h
  | o' :: l, k, hh, 0, o, h => by simp at h; subst h; exact hh.1
  | o' :: l, k, hh, i + 1, o, h => by
    have := Obls.at_ hh.2 i o (by simpa using h)
    rw [show k + (i + 1) = k + 1 + i by omega]
    exact this

section
variable {P : Program} {n : Nat} {ops : Array Oper} {Φ : Nat → Fact} {e0 : Nat → Value} {w0 : World}
/-- What holds while the heads come. -/
structure Inv (ops : Array Oper) (n m : Nat) (ds : List Nat) (Φ : Nat → Fact) (e0 : Nat → Value) (w0 : World) (listed : Array Bool) (a : Act) (w : World) : Prop where
  head : HeadInv .any ops m listed
  st : ∃ e, St n a e ∧ (∀ s, ds.contains s = false → e s = e0 s) ∧ ∀ (i : Nat) (o : Oper) (d : Tmp), ops[i]? = some o → o.dst = some d → listed.getD i false = true → Φ i (e d) w
  ext : Ext w0 w

def unl (m : Nat) (listed : Array Bool) : Nat := ((List.range m).filter fun i => !listed.getD i true).length
theorem filter_one {p : Nat → Bool} {i : Nat} (hp : p i = true) : ∀ (l : List Nat), l.Nodup → i ∈ l → (l.filter fun j => p j && !(j == i)).length + 1 = (l.filter p).length
  | [], _, h => by cases h
  | a :: l, hn, hi => by
    obtain ⟨hn1, hn2⟩ := List.nodup_cons.1 hn
    by_cases ha : a = i
    · subst ha
      have : (l.filter fun j => p j && !(j == a)) = l.filter p := by
        apply List.filter_congr
        intro x hx
        have : x ≠ a := fun h => hn1 (h ▸ hx)
        simp [this]
      simp [hp, this]
    · have hi' : i ∈ l := by
        rcases List.mem_cons.1 hi with h | h
        · exact absurd h.symm ha
        · exact h
      have ih := filter_one hp l hn2 hi'
      by_cases hpa : p a = true
      · simp [hpa, ha]; simpa using ih
      · simp [hpa]; simpa using ih
theorem unl_set {m i : Nat} {listed : Array Bool} (hi : i < m) (hm : m ≤ listed.size) (hu : listed.getD i true = false) : unl m (listed.setIfInBounds i true) + 1 = unl m listed := by
  unfold unl
  rw [← filter_one (p := fun i => !listed.getD i true) (i := i) (by simp only [hu, Bool.not_false]) (List.range m) List.nodup_range (List.mem_range.2 hi)]
  congr 2
  apply List.filter_congr
  intro j hj
  have hj' := List.mem_range.1 hj
  by_cases h : j = i
  · subst h; simp [show j < listed.size by omega]
  · rw [getD_set_ne true (Ne.symm h)]; simp [h]

theorem ready_some {m : Nat} {listed : Array Bool} (hac : acycB ops.toList = true) (hm : m ≤ ops.size) (hsz : listed.size = ops.size) (hu : 0 < unl m listed) : ∃ i, i < m ∧ i ∈ Region.ready .any ops listed := by
  have hex : ∃ i, i < m ∧ listed.getD i true = false := by
    unfold unl at hu
    obtain ⟨i, hi⟩ := List.exists_mem_of_length_pos hu
    rw [List.mem_filter, List.mem_range] at hi
    exact ⟨i, hi.1, by simpa using hi.2⟩
  obtain ⟨i, hi, hun⟩ := hex
  induction i using Nat.strongRecOn with
  | _ i ih =>
    by_cases hall : ∃ j, j < i ∧ listed.getD j true = false
    · obtain ⟨j, hj, hjun⟩ := hall
      exact ih j hj (by omega) hjun
    · refine ⟨i, hi, mem_ready.2 ⟨hun, ops[i]'(by omega), by simp [show i < ops.size by omega], fun e he hb => ?_⟩⟩
      unfold acycB at hac
      rw [List.all_eq_true] at hac
      have h1 := hac (ops[i]'(by omega), i) (by
        rw [List.mem_iff_getElem?]
        exact ⟨i, by simp [show i < ops.size by omega]⟩)
      rw [Array.all_eq_true'] at h1
      have h2 := h1 e he
      simp only [hb, Bool.not_true, Bool.false_or, decide_eq_true_eq] at h2
      have h3 : ¬ listed.getD e.on true = false := fun h => hall ⟨_, h2, h⟩
      have hlt : e.on < listed.size := by omega
      simp [hlt] at h3 ⊢
      exact h3

theorem wpAny_heads {m g : Nat} {Q' : Exit → Act → World → Prop} (hac : acycB ops.toList = true) (hm : m ≤ ops.size) (hdn : dstsIn n ops.toList = true) (hnd : nodupB (dstsOf ops.toList) = true)
    (hready : ∀ listed, HeadInv .any ops m listed → 0 < unl m listed → ∀ i ∈ Region.ready .any ops listed, i < m)
    (hmono : ∀ i, Lasts (Φ i))
    (hops : ∀ i o, i < m → ops[i]? = some o → Obl P ops (dstsOf (ops.toList.take m)) Φ e0 w0 i o)
    (hfin : ∀ listed a w, Inv ops n m (dstsOf (ops.toList.take m)) Φ e0 w0 listed a w → unl m listed = 0 → wpAny P .any ops Q' g listed a w) :
    ∀ (f : Nat) (listed : Array Bool) (a : Act) (w : World), unl m listed = f → Inv ops n m (dstsOf (ops.toList.take m)) Φ e0 w0 listed a w → wpAny P .any ops Q' (f + g) listed a w := by
  intro f
  induction f with
  | zero => intro listed a w hu hI; rw [Nat.zero_add]; exact hfin _ _ _ hI hu
  | succ f ih =>
    intro listed a w hu hI
    rw [show f + 1 + g = (f + g) + 1 by omega]
    obtain ⟨i0, hi0, hr0⟩ := ready_some hac hm hI.head.size (by omega)
    refine ⟨fun h0 => (by rw [h0] at hr0; cases hr0), fun i hi => ?_⟩
    have him := hready listed hI.head (by omega) i hi
    obtain ⟨hun, o, ho, hall⟩ := mem_ready.1 hi
    obtain ⟨e, hs, hout, hfacts⟩ := hI.st
    have hk : Known ops (dstsOf (ops.toList.take m)) Φ e0 w0 o e w := by
      refine ⟨hI.ext, hout, fun k d hk hd => ?_⟩
      rw [List.any_eq_true] at hk
      obtain ⟨ed, hed, hb⟩ := hk
      have hed := Array.mem_toList_iff.1 hed
      simp only [Bool.and_eq_true, beq_iff_eq] at hb
      obtain ⟨hb1, hb2⟩ := hb
      have hl := hall ed hed hb1
      rw [hb2] at hl
      cases hok : ops[k]? with
      | none => rw [hok] at hd; cases hd
      | some ok => rw [hok] at hd; exact hfacts k ok d hok hd hl
    have hobl := hops i o him ho e w hk
    have hdo : ∀ k, o.dst = some k → k < n := by
      intro k hk
      unfold dstsIn at hdn
      rw [List.all_eq_true] at hdn
      have := hdn o (by rw [List.mem_iff_getElem?]; exact ⟨i, by simpa using ho⟩)
      rw [hk] at this
      simpa using this
    have hds : ∀ d, o.dst = some d → (dstsOf (ops.toList.take m)).contains d = true := fun d hd => by
      simp only [List.contains_iff_mem, dstsOf, List.mem_filterMap]
      exact ⟨o, by rw [List.mem_iff_getElem?]; exact ⟨i, by rw [List.getElem?_take, if_pos him]; simpa using ho⟩, hd⟩
    have hother : ∀ (j : Nat) (oj : Oper) (d : Tmp), ops[j]? = some oj → oj.dst = some d → o.dst = some d → j = i := by
      intro j oj d hj hd hd'
      have key : ∀ (l : List Oper) (i j : Nat) (o oj : Oper), nodupB (dstsOf l) = true → l[i]? = some o → l[j]? = some oj → o.dst = some d → oj.dst = some d → i = j := by
        intro l
        induction l with
        | nil => intro i j o oj _ h; simp at h
        | cons x l ihl =>
          intro i j o oj hn hi hj h1 h2
          have hmem : ∀ (k : Nat) (o : Oper), l[k]? = some o → o.dst = some d → d ∈ dstsOf l := fun k o hk ho => by
            simp only [dstsOf, List.mem_filterMap]
            exact ⟨o, List.mem_iff_getElem?.2 ⟨k, hk⟩, ho⟩
          cases i with
          | zero =>
            cases j with
            | zero => rfl
            | succ j =>
              simp at hi hj
              subst hi
              have hx : dstsOf (x :: l) = d :: dstsOf l := by simp [dstsOf, h1]
              rw [hx] at hn
              simp only [nodupB, Bool.and_eq_true, Bool.not_eq_true', List.contains_eq_mem, decide_eq_false_iff_not] at hn
              exact absurd (hmem j oj hj h2) hn.1
          | succ i =>
            cases j with
            | zero =>
              simp at hi hj
              subst hj
              have hx : dstsOf (x :: l) = d :: dstsOf l := by simp [dstsOf, h2]
              rw [hx] at hn
              simp only [nodupB, Bool.and_eq_true, Bool.not_eq_true', List.contains_eq_mem, decide_eq_false_iff_not] at hn
              exact absurd (hmem i o hi h1) hn.1
            | succ j =>
              simp at hi hj
              have hn' : nodupB (dstsOf l) = true := by
                cases hxd : x.dst with
                | none => have hx : dstsOf (x :: l) = dstsOf l := by simp [dstsOf, hxd]
                          rwa [hx] at hn
                | some dx => have hx : dstsOf (x :: l) = dx :: dstsOf l := by simp [dstsOf, hxd]
                             rw [hx] at hn
                             simp only [nodupB, Bool.and_eq_true] at hn
                             exact hn.2
              rw [ihl i j o oj hn' hi hj h1 h2]
      exact (key ops.toList i j o oj hnd (by simpa using ho) (by simpa using hj) hd' hd).symm
    have hlast : ∀ v w', Ext w w' → Φ i v w' → Inv ops n m (dstsOf (ops.toList.take m)) Φ e0 w0 (listed.setIfInBounds i true) (a.put o.dst v) w' := by
      intro v w' hw hv
      refine ⟨hI.head.set hi him, ⟨put e o.dst v, hs.put hdo v, fun s hsn => ?_, fun j oj d hj hd hl => ?_⟩, hI.ext.trans' hw⟩
      · cases hod : o.dst with
        | none => exact hout s hsn
        | some d =>
          have hne : s ≠ d := fun h => by rw [h, hds d hod] at hsn; cases hsn
          show upd e d v s = _
          rw [upd_ne _ _ hne]
          exact hout s hsn
      · cases hod : o.dst with
        | none =>
          have hji : j ≠ i := fun h => by
            subst h
            rw [ho] at hj
            cases hj
            rw [hod] at hd
            cases hd
          rw [getD_set_ne false (Ne.symm hji)] at hl
          exact hmono j _ _ _ hw (hfacts j oj d hj hd hl)
        | some d' =>
          show Φ j (upd e d' v d) w'
          by_cases hdd : d = d'
          · subst hdd
            have hji := hother j oj d hj hd hod
            subst hji
            rw [upd_same]
            exact hv
          · have hji : j ≠ i := fun h => by
              subst h
              rw [ho] at hj
              cases hj
              rw [hod] at hd
              exact hdd (Option.some.inj hd).symm
            rw [upd_ne _ _ hdd]
            rw [getD_set_ne false (Ne.symm hji)] at hl
            exact hmono j _ _ _ hw (hfacts j oj d hj hd hl)
    have hu' : unl m (listed.setIfInBounds i true) = f := by
      have := unl_set him (by rw [hI.head.size]; exact hm) hun
      omega
    unfold wpOp
    simp only [ho]
    rw [wanted_eq hs]
    split
    · rename_i hw
      rw [if_pos hw] at hobl
      exact .inl (Oper.wp_of_opW hs hobl fun v w' hv => ih _ _ _ hu' (hlast v w' hv.1 hv.2))
    · rename_i hw
      rw [if_neg hw] at hobl
      exact ih _ _ _ hu' (hlast undef w (Ext.rfl' w) hobl)
theorem unl_replicate (m k : Nat) (h : m ≤ k) : unl m (Array.replicate k false) = m := by
  unfold unl
  rw [List.filter_eq_self.2]
  · simp
  · intro i hi
    have := List.mem_range.1 hi
    simp [show i < k by omega]
theorem unl_zero {m : Nat} {listed : Array Bool} (h : unl m listed = 0) : ∀ i, i < m → listed.getD i true = true := by
  intro i hi
  unfold unl at h
  have h := List.eq_nil_of_length_eq_zero h
  rw [List.filter_eq_nil_iff] at h
  simpa using h i (List.mem_range.2 hi)
end

section
variable {P : Program} {n : Nat} {Q : Exit → (Nat → Value) → World → Prop} {e : Nat → Value} {w : World}
/-- All facts at the end. -/
def AllFacts (l : List Oper) (Φ : Nat → Fact) (e' : Nat → Value) (w' : World) : Prop := ∀ (i : Nat) (d : Tmp), ((l[i]?).bind (·.dst)) = some d → Φ i (e' d) w'
def factAt : List LFact → Nat → Fact
  | [], _ => isAnyF
  | φ :: _, 0 => φ.f
  | _ :: l, i + 1 => factAt l i
theorem factAt_last : ∀ (φs : List LFact) (i : Nat), Lasts (factAt φs i)
  | [], _ => lasts_isAny
  | φ :: _, 0 => φ.last
  | _ :: l, i + 1 => factAt_last l i
set_option maxHeartbeats 8000000 in
theorem CW_any {id : Nat} {l : List Oper} (φs : List LFact) (hm : P.follows .mixedOrders = true) (hac : acycB l = true) (hd : dstsIn n l = true) (hnd : nodupB (dstsOf l) = true)
    (hops : Obls P l.toArray (dstsOf l) (factAt φs) e w l 0)
    (h : ∀ e' w', Ext w w' → (∀ s, (dstsOf l).contains s = false → e' s = e s) → AllFacts l (factAt φs) e' w' → Q .normal e' w') : CW P n (.region id l.toArray true) Q e w := by
  unfold CW
  intro a hs
  refine wp_region_any hm ?_
  have hsize : l.toArray.size = l.length := by simp
  have inv0 : Inv l.toArray n l.toArray.size (dstsOf (l.toArray.toList.take l.toArray.size)) (factAt φs) e w (Array.replicate l.toArray.size false) a { w with drawn := w.drawn + 1 } :=
    ⟨⟨by simp, fun j oj _ hl => (by rw [getD_replicate_false] at hl; cases hl), fun t ht ht' => by omega⟩, ⟨e, hs, fun _ _ => rfl, fun i o d _ _ hl => (by rw [getD_replicate_false] at hl; cases hl)⟩, Ext.drew' w⟩
  have := wpAny_heads (P := P) (ops := l.toArray) (g := 0) (Q' := QA n Q) (n := n) (m := l.toArray.size) (Φ := factAt φs) (e0 := e) (w0 := w) (by simpa using hac) (Nat.le_refl _) (by simpa using hd) (by simpa using hnd)
    (fun listed _ _ i hi => by obtain ⟨_, o, ho, _⟩ := mem_ready.1 hi; exact (Array.getElem?_eq_some_iff.1 ho).1)
    (fun i => factAt_last φs i) (fun i o _ ho => by have := hops.at_ i o (by simpa using ho); simpa using this)
    (fun listed a w' hI hu => by
      have hall := unl_zero hu
      refine ⟨?_, ?_⟩
      · cases hr : Region.ready .any l.toArray listed with
        | nil => rfl
        | cons i r =>
          have hi : i ∈ Region.ready .any l.toArray listed := by rw [hr]; exact List.mem_cons_self
          obtain ⟨hun, o, ho, _⟩ := mem_ready.1 hi
          rw [hall i (Array.getElem?_eq_some_iff.1 ho).1] at hun
          cases hun
      · obtain ⟨e', hs', hout, hf⟩ := hI.st
        refine ⟨e', hs', h e' w' hI.ext (by simpa using hout) fun i d hid => ?_⟩
        cases ho : l[i]? with
        | none => rw [ho] at hid; cases hid
        | some o =>
          rw [ho] at hid
          have hlt : i < l.length := (List.getElem?_eq_some_iff.1 ho).1
          refine hf i o d (by simpa using ho) hid ?_
          have h1 := hall i (by simpa using hlt)
          have h2 : i < listed.size := by rw [hI.head.size]; simpa using hlt
          simp [h2] at h1 ⊢
          exact h1)
    _ _ a _ (unl_replicate _ _ (Nat.le_refl _)) inv0
  simpa using this
/-- The same ahead of a tail. -/
theorem CW_anyT {id : Nat} {l : List Oper} (k : Nat) (φs : List LFact) (hm : P.follows .mixedOrders = true) (hac : acycB l = true) (hd : dstsIn n l = true) (hnd : nodupB (dstsOf l) = true)
    (hk : (decide (k < l.length) && Region.sinkB .any l.toArray k && Region.chainB .any l.toArray k && Region.seqB .any l.toArray (l.length - k) k (Array.replicate k true ++ Array.replicate (l.length - k) false)) = true)
    (hops : Obls P l.toArray (dstsOf (l.take k)) (factAt φs) e w (l.take k) 0)
    (h : ∀ e' w', Ext w w' → (∀ s, (dstsOf (l.take k)).contains s = false → e' s = e s) → AllFacts (l.take k) (factAt φs) e' w' → OW P l.toArray Q (l.drop k) e' w') : CW P n (.region id l.toArray true) Q e w := by
  unfold CW
  intro a hs
  refine wp_region_any hm ?_
  simp only [Bool.and_eq_true, decide_eq_true_eq] at hk
  obtain ⟨⟨⟨hkl, hsink⟩, hchain⟩, hseq⟩ := hk
  have hd2 : dstsIn n (l.drop k) = true := by
    unfold dstsIn at hd ⊢
    rw [List.all_eq_true] at hd ⊢
    exact fun o ho => hd o (List.mem_of_mem_drop ho)
  have inv0 : Inv l.toArray n k (dstsOf (l.toArray.toList.take k)) (factAt φs) e w (Array.replicate l.toArray.size false) a { w with drawn := w.drawn + 1 } :=
    ⟨⟨by simp, fun j oj _ hl => (by rw [getD_replicate_false] at hl; cases hl), fun t _ ht => getD_in (by simpa using ht) (getD_replicate_false _ _)⟩, ⟨e, hs, fun _ _ => rfl, fun i o d _ _ hl => (by rw [getD_replicate_false] at hl; cases hl)⟩, Ext.drew' w⟩
  have := wpAny_heads (P := P) (ops := l.toArray) (g := l.length - k) (Q' := QA n Q) (n := n) (m := k) (Φ := factAt φs) (e0 := e) (w0 := w) (by simpa using hac) (by simp; omega) (by simpa using hd) (by simpa using hnd)
    (fun listed hI hu i hi => by
      have hex : ∃ j, j < k ∧ listed.getD j true = false := by
        unfold unl at hu
        obtain ⟨j, hj⟩ := List.exists_mem_of_length_pos hu
        rw [List.mem_filter, List.mem_range] at hj
        exact ⟨j, hj.1, by simpa using hj.2⟩
      obtain ⟨j, hj, hjun⟩ := hex
      rcases Nat.lt_or_ge i k with h1 | h1
      · exact h1
      · exact absurd hi (tail_waits hsink hchain (by simpa using hkl) hI _ j rfl hj hjun i h1))
    (fun i => factAt_last φs i) (fun i o hik ho => by have := hops.at_ i o (by rw [List.getElem?_take, if_pos hik]; simpa using ho); simpa using this)
    (fun listed a w' hI hu => by
      have hall := unl_zero hu
      have hsz := hI.head.size
      have hle : listed = Array.replicate k true ++ Array.replicate (l.length - k) false := by
        apply Array.ext
        · simp at hsz ⊢; omega
        · intro i h1 h2
          by_cases hik : i < k
          · have := hall i hik
            simp [h1] at this
            rw [Array.getElem_append_left (by simpa using hik)]
            simp [this]
          · have := hI.head.tail i (by omega) (by rw [hsz] at h1; exact h1)
            simp [h1] at this
            rw [Array.getElem_append_right (by simpa using hik)]
            simp [this]
      obtain ⟨e', hs', hout, hf⟩ := hI.st
      have hl : (l.drop k).length = l.length - k := by simp
      have hseq' : Region.seqB .any l.toArray (l.drop k).length k listed = true := by rw [hl, hle]; exact hseq
      have hdone := wpAny_of_seq (P := P) (md := .any) (ops := l.toArray) (Q' := QA n Q) (l.drop k) k listed a w' (fun j => by simp [List.getElem?_drop]) hseq'
        (wpList_of_OW _ hd2 hs' (h e' w' hI.ext (by simpa using hout) fun i d hid => by
          cases ho : (l.take k)[i]? with
          | none => rw [ho] at hid; cases hid
          | some o =>
            rw [ho] at hid
            have hlt : i < (l.take k).length := (List.getElem?_eq_some_iff.1 ho).1
            have hik : i < k := by simp at hlt; omega
            rw [List.getElem?_take, if_pos hik] at ho
            refine hf i o d (by simpa using ho) hid ?_
            have h1 := hall i hik
            have h2 : i < listed.size := by rw [hsz]; simp; omega
            simp [h2] at h1 ⊢
            exact h1))
      rwa [hl] at hdone)
    _ _ a _ (unl_replicate _ _ (by simp; omega)) inv0
  rw [show k + (l.length - k) = l.toArray.size by simp; omega] at this
  exact this
end
section
variable {P : Program} {ops : Array Oper} {ds : List Nat} {Φ : Nat → Fact} {e0 : Nat → Value} {w0 : World} {i : Nat} {d : Tmp} {op : Op} {ty : TypeId} {pos : String} {aft : Array Edge}
def keepsF (d : Tmp) (w : World) (φ : Fact) : Exit → (Nat → Value) → World → Prop := fun x e' w' => x = .normal ∧ Ext w w' ∧ φ (e' d) w'
/-- One operation's own duty, by a walk of that operation alone. -/
theorem Obl_of (h : ∀ e w, Known ops ds Φ e0 w0 ⟨some d, op, ty, pos, aft, none⟩ e w → OW P ops (keepsF d w (Φ i)) [⟨some d, op, ty, pos, aft, none⟩] e w) : Obl P ops ds Φ e0 w0 i ⟨some d, op, ty, pos, aft, none⟩ := by
  intro e w hk
  have hh := h e w hk
  rw [if_pos (by rfl)]
  unfold OW at hh
  rw [if_pos (by rfl)] at hh
  unfold opW at hh ⊢
  generalize (execOp (ev e) _).run P w = r at *
  cases r with
  | ok x w' =>
    cases x <;> simp only [opUpon] at hh <;> simp only [opUpon]
    case value u => unfold OW at hh; obtain ⟨_, h1, h2⟩ := hh; rw [show put e (some d) u = upd e d u from rfl, upd_same] at h2; exact ⟨h1, h2⟩
    case skip => unfold OW at hh; obtain ⟨_, h1, h2⟩ := hh; rw [show put e (some d) undef = upd e d undef from rfl, upd_same] at h2; exact ⟨h1, h2⟩
    case enter f args =>
      obtain ⟨rfl, hc⟩ := hh
      refine ⟨rfl, hc.mono fun en w'' hx => ?_⟩
      obtain ⟨u, he, hx⟩ := hx
      unfold OW at hx
      obtain ⟨_, h1, h2⟩ := hx
      rw [show put e (some d) u = upd e d u from rfl, upd_same] at h2
      exact ⟨u, he, h1, h2⟩
  | halt x w' => simp only [opUpon] at hh
/-- One that is guarded, and carried out. -/
theorem Obl_take {g : Nat × Bool} (hw : ∀ e w, Known ops ds Φ e0 w0 ⟨some d, op, ty, pos, aft, some g⟩ e w → wantedE ops e ⟨some d, op, ty, pos, aft, some g⟩ = true)
    (h : ∀ e w, Known ops ds Φ e0 w0 ⟨some d, op, ty, pos, aft, none⟩ e w → OW P ops (keepsF d w (Φ i)) [⟨some d, op, ty, pos, aft, none⟩] e w) : Obl P ops ds Φ e0 w0 i ⟨some d, op, ty, pos, aft, some g⟩ := by
  intro e w hk
  have := Obl_of h e w ⟨hk.ext, hk.out, hk.pre⟩
  rw [if_pos (by rfl)] at this
  rw [if_pos (hw e w hk)]
  unfold opW at this ⊢
  exact this
theorem Obl_pass {g : Nat × Bool} (hw : ∀ e w, Known ops ds Φ e0 w0 ⟨some d, op, ty, pos, aft, some g⟩ e w → wantedE ops e ⟨some d, op, ty, pos, aft, some g⟩ = false) (h : ∀ w, Φ i undef w) : Obl P ops ds Φ e0 w0 i ⟨some d, op, ty, pos, aft, some g⟩ := by
  intro e w hk
  rw [if_neg (by rw [hw e w hk]; simp)]
  exact h w
end
theorem keepsF_mk (e : Nat → Value) (d : Tmp) (v : Value) (w : World) : keepsF d w (isV v) .normal (upd e d v) w := ⟨rfl, Ext.rfl' w, upd_same _ _ _⟩
theorem keepsF_bs (e : Nat → Value) (d : Tmp) (A : Option Addr) (c : Nat) (l : List UInt8) (w w' : World) (hw : Ext w w') (hc : l.length ≤ c) (hb : Bs w' A l) : keepsF d w (isBs l) .normal (upd e d (.slice A l.length c)) w' := ⟨rfl, hw, A, c, upd_same _ _ _, hc, hb⟩
theorem keepsF_ext (e : Nat → Value) (d : Tmp) (v : Value) (w w' : World) (hw : Ext w w') : keepsF d w (isV v) .normal (upd e d v) w' := ⟨rfl, hw, upd_same _ _ _⟩
attribute [irreducible] Obl keepsF
end Go.Proofs.Ytnfeibbnjdegfaa

/- Laws that add one to each byte of what they were told: what such a loop keeps. -/
namespace Go.Proofs.Ytnfeibbnjdegfaa
open Go Go.RowKit
set_option linter.unusedVariables false
theorem inc_u8 (x : UInt8) : IntKind.u8.wrap ((x.toNat : Int) + 1) = ((x + 1).toNat : Int) := by
  rw [show (x.toNat : Int) + 1 = ((x.toNat + 1 : Nat) : Int) by omega, wrap_u8, UInt8.toNat_add]
  rfl
theorem grown_trans' {a b c : World} {row : Option Nat} (h : a.grownBy b row) (k : b.grownBy c row) : a.grownBy c row :=
  ⟨k.os.trans h.os, k.tape.trans h.tape, k.output.trans h.output, Nat.le_trans h.size k.size, fun i hi hne => (k.block i (Nat.lt_of_lt_of_le hi h.size) hne).trans (h.block i hi hne)⟩
theorem ext_grown {T : TypeId} {w0 wS wX : World} {v : Value} {n : Nat} {xs : List Value} (h : Ext w0 wS) (ho : wS.ownsRow w0.heap.size T 1 v n xs) (hg : wS.grownBy wX v.ownBlock) : Ext w0 wX :=
  Below.grown h hg h.size (fun k hk => (ho.lt k hk).1)
theorem keep_own {T : TypeId} {wS wX : World} {v1 v2 : Value} {n2 base2 : Nat} {xs2 : List Value} (h2 : wS.ownsRow base2 T 1 v2 n2 xs2) (hg : wS.grownBy wX v1.ownBlock) (hlt : ∀ k, v1.ownBlock = some k → k < base2) : wX.ownsRow base2 T 1 v2 n2 xs2 := by
  refine h2.kept hg ?_
  cases hv : v2.ownBlock with
  | none => exact .inl rfl
  | some k2 =>
    right
    intro h
    have h3 := h2.lt k2 hv
    have h4 := hlt k2 h.symm
    omega
theorem own_lt {T : TypeId} {w w' : World} {base : Nat} {v : Value} {n : Nat} {xs : List Value} (h : w.ownsRow base T 1 v n xs) (hw : Ext w w') : ∀ k, v.ownBlock = some k → k < w'.heap.size := fun k hk => by
  have := (h.lt k hk).2
  have := hw.size
  omega
theorem inc_cell {T : TypeId} {w : World} {base g n c k : Nat} {zs : List UInt8} (ho : w.ownsRow base T 1 (.slice (some ⟨g, 0, none⟩) n c) n (zs.map bv)) (hz : zs.length = n) (hk : k < n) : w.cell? ((⟨g, 0, none⟩ : Addr).add k) = some (bv (zs[k]'(by omega))) := by
  rw [add0, ho.cellAt k (by omega), List.getElem?_map, List.getElem?_eq_getElem (by omega)]
  rfl
theorem inc_step {T : TypeId} {w : World} {base g n c k : Nat} {zs : List UInt8} (ho : w.ownsRow base T 1 (.slice (some ⟨g, 0, none⟩) n c) n (zs.map bv)) (hz : zs.length = n) (hk : k < n) (x : UInt8) :
    (w.setCell ⟨g, k, none⟩ (bv x)).ownsRow base T 1 (.slice (some ⟨g, 0, none⟩) n c) n ((zs.set k x).map bv) ∧ w.grownBy (w.setCell ⟨g, k, none⟩ (bv x)) (some g) := by
  have := ho.stored k (bv x)
  rw [List.map_set]
  exact this
theorem Bs.cellAt {w : World} {ad : Addr} {l : List UInt8} (h : Bs w (some ad) l) (j : Nat) (hj : j < l.length) : w.cell? (ad.add j) = some (bv l[j]) := by
  obtain ⟨ad', ha, hc⟩ := h.at_ hj
  cases ha
  exact hc
theorem Bs.some_ {w : World} {A : Option Addr} {l : List UInt8} (h : Bs w A l) (hl : 0 < l.length) : ∃ ad, A = some ad := by
  obtain ⟨ad, ha, _⟩ := h.at_ hl
  exact ⟨ad, ha⟩
theorem bs_lit {w : World} {g : Nat} {T : TypeId} (l : List UInt8) (vs : List Value) (hb : Blk w g T vs.toArray) (he : vs = l.map bv) : Bs w (some ⟨g, 0, none⟩) l := by
  subst he
  unfold Bs
  simpa using hb.rd
theorem keepsF_bsN (e : Nat → Value) (d : Tmp) (A : Option Addr) (n c : Nat) (l : List UInt8) (w w' : World) (hn : l.length = n) (hw : Ext w w') (hc : n ≤ c) (hb : Bs w' A l) : keepsF d w (isBs l) .normal (upd e d (.slice A n c)) w' := by
  subst hn; exact keepsF_bs e d A c l w w' hw hc hb
/-- Where ways meet again. -/
theorem CW_cut {P : Program} {n : Nat} {c : Code} {K : (Nat → Value) → World → Prop} {Q : Exit → (Nat → Value) → World → Prop} {e : Nat → Value} {w : World} (J : (Nat → Value) → World → Prop) (h : CW P n c (thenE J Q) e w) (hk : ∀ e w, J e w → K e w) : CW P n c (thenE K Q) e w :=
  h.mono fun x e w hx => by
    cases x <;> unfold thenE at hx ⊢ <;> first | exact hk _ _ hx | exact hx
section
variable {P : Program} {ops : Array Oper} {Q : Exit → (Nat → Value) → World → Prop} {rest : List Oper} {e : Nat → Value} {w : World} {d : Tmp} {ty : TypeId} {pos : String} {aft : Array Edge}
/-- An index that is a literal. -/
theorem OW_idxL {x : Operand} {t el : TypeId} {ad : Addr} {n c : Nat} {k : IntKind} {j : Int} (jN : Nat) (ht : P.underlying t = some (.slice el)) (hel : OneT P el) (hx : ev e x = .slice (some ad) n c) (hj : j = (jN : Int)) (hn : jN < n)
    (h : OW P ops Q rest (upd e d (.pointer (some (ad.add jN)))) w) : OW P ops Q (⟨some d, .indexAddr t x (.const (.int k j)), ty, pos, aft, none⟩ :: rest) e w := OW_idxS (y := .const (.int k j)) ht hel hx rfl jN hj hn h
end
end Go.Proofs.Ytnfeibbnjdegfaa
