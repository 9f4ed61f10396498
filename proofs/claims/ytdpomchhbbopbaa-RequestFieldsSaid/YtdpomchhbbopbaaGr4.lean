/- Several texts in one, as they stand in wip/src. -/
import Derived.Laws.CopyRow
import Derived.Laws.Slices
import Derived.DeepKeys
import Derived.Laws.StructEq
import Derived.Laws.Strings
import Derived.MapKept
import Derived.Test.YtdpomchhbbopbaaGr2
import Derived.Test.YtdpomchhbbopbaaGr3
/- Numbers of 32 bits; places in blocks; slices of arrays; copy; an array's element. No program in sight. -/
namespace Go.Proofs.Ytdpomchhbbopbaa
open Go Go.RowKit
set_option linter.unusedVariables false
section
variable {P : Program} {ops : Array Oper} {Q : Exit → (Nat → Value) → World → Prop} {rest : List Oper} {e : Nat → Value} {w : World} {d : Tmp} {ty : TypeId} {pos : String} {aft : Array Edge}
section
variable {x y : Operand} {t t' : TypeId} {a b : UInt32}
theorem OW_addW (hx : ev e x = uv a) (hy : ev e y = uv b) (h : OW P ops Q rest (upd e d (uv (a + b))) w) : OW P ops Q (⟨some d, .binOp .add t x y t', ty, pos, aft, none⟩ :: rest) e w :=
  OW_add hx hy (by rw [uv_add]; exact h)
theorem OW_andW (hx : ev e x = uv a) (hy : ev e y = uv b) (h : OW P ops Q rest (upd e d (uv (a &&& b))) w) : OW P ops Q (⟨some d, .binOp .and t x y t', ty, pos, aft, none⟩ :: rest) e w :=
  OW_and hx hy _ (uv_and a b) h
theorem OW_orW (hx : ev e x = uv a) (hy : ev e y = uv b) (h : OW P ops Q rest (upd e d (uv (a ||| b))) w) : OW P ops Q (⟨some d, .binOp .or t x y t', ty, pos, aft, none⟩ :: rest) e w :=
  OW_or hx hy _ (uv_or a b) h
theorem OW_xorW (hx : ev e x = uv a) (hy : ev e y = uv b) (h : OW P ops Q rest (upd e d (uv (a ^^^ b))) w) : OW P ops Q (⟨some d, .binOp .xor t x y t', ty, pos, aft, none⟩ :: rest) e w :=
  OW_xor hx hy _ (uv_xor a b) h
theorem OW_notW (hx : ev e x = uv a) (h : OW P ops Q rest (upd e d (uv (~~~ a))) w) : OW P ops Q (⟨some d, .unOp .xor t x, ty, pos, aft, none⟩ :: rest) e w := by
  refine OW_val (.int .u32 (bitsK .xor .u32 4294967295 (a.toNat : Int))) rfl ?_ (by rw [uv_not]; exact h)
  simp only [execOp, hx]
  rfl
theorem OW_shrW {ky : IntKind} {b : Int} (k : Nat) (hx : ev e x = uv a) (hy : ev e y = .int ky b) (hb : b = (k : Int)) (hk : k ≤ 32) (h : OW P ops Q rest (upd e d (uv (shU a k))) w) : OW P ops Q (⟨some d, .binOp .shr t x y t', ty, pos, aft, none⟩ :: rest) e w :=
  OW_shr hx hy (by omega) _ (uv_shr a b k hb hk) h
theorem OW_shlW {ky : IntKind} {b : Int} (k : Nat) (hx : ev e x = uv a) (hy : ev e y = .int ky b) (hb : b = (k : Int)) (hk : k ≤ 32) (h : OW P ops Q rest (upd e d (uv (slU a k))) w) : OW P ops Q (⟨some d, .binOp .shl t x y t', ty, pos, aft, none⟩ :: rest) e w :=
  OW_shl hx hy (by omega) _ (uv_shl a b k hb hk) h
theorem OW_shlV {ky : IntKind} (k : Nat) (hx : ev e x = uv a) (hy : ev e y = .int ky (32 - (k : Int))) (hk : k ≤ 32) (h : OW P ops Q rest (upd e d (uv (slU a (32 - k)))) w) : OW P ops Q (⟨some d, .binOp .shl t x y t', ty, pos, aft, none⟩ :: rest) e w :=
  OW_shlW (32 - k) hx hy (by omega) (by omega) h
end
/-- A load it is. -/
theorem OW_isLoad {x : Operand} {t : TypeId} (h : OW P ops Q (⟨some d, .load t x, ty, pos, aft, none⟩ :: rest) e w) : OW P ops Q (⟨some d, .load t x, ty, pos, aft, none⟩ :: rest) e w := h
/-- Places in a block, by their number. -/
theorem OW_idxAB {x y : Operand} {t el : TypeId} {g n : Nat} {k : IntKind} {j : Int} (ht : P.underlying t = some (.array n el)) (hel : OneT P el) (hx : ev e x = .pointer (some ⟨g, 0, none⟩)) (hy : ev e y = .int k j) (jN : Nat) (hj : j = (jN : Int)) (hn : jN < n)
    (h : OW P ops Q rest (upd e d (.pointer (some ⟨g, jN, none⟩))) w) : OW P ops Q (⟨some d, .indexAddr t x y, ty, pos, aft, none⟩ :: rest) e w :=
  OW_idxA ht hel hx hy jN hj hn (by rw [addr0]; exact h)
theorem OW_idxSB {x y : Operand} {t el : TypeId} {g n c : Nat} {k : IntKind} {j : Int} (ht : P.underlying t = some (.slice el)) (hel : OneT P el) (hx : ev e x = .slice (some ⟨g, 0, none⟩) n c) (hy : ev e y = .int k j) (jN : Nat) (hj : j = (jN : Int)) (hn : jN < n)
    (h : OW P ops Q rest (upd e d (.pointer (some ⟨g, jN, none⟩))) w) : OW P ops Q (⟨some d, .indexAddr t x y, ty, pos, aft, none⟩ :: rest) e w :=
  OW_idxS ht hel hx hy jN hj hn (by rw [addr0]; exact h)
theorem OW_loadBk {x : Operand} {t T : TypeId} {g i : Nat} {cs : Array Value} (ht : OneT P t) (hx : ev e x = .pointer (some ⟨g, i, none⟩)) (hb : Blk w g T cs) (v : Value) (hv : cs[i]? = some v) (h : OW P ops Q rest (upd e d v) w) : OW P ops Q (⟨some d, .load t x, ty, pos, aft, none⟩ :: rest) e w :=
  OW_load1 ht hx v (by rw [hb.cell]; exact hv) h
theorem OW_loadAB {x : Operand} {t T : TypeId} {n g : Nat} {zs : List Value} (ht : AggT P t n zs) (hx : ev e x = .pointer (some ⟨g, 0, none⟩)) (cs : List Value) (hb : Blk w g T cs.toArray) (hl : cs.length = n)
    (h : OW P ops Q rest (upd e d (.agg cs.toArray)) w) : OW P ops Q (⟨some d, .load t x, ty, pos, aft, none⟩ :: rest) e w := OW_loadX ht hx cs hl hb.atL h
/-- A whole array that stands in a block, anywhere. -/
theorem OW_loadAt {x : Operand} {t T : TypeId} {n g o : Nat} {zs : List Value} {all : Array Value} (ht : AggT P t n zs) (hx : ev e x = .pointer (some ⟨g, o, none⟩)) (hb : Blk w g T all) (cs : List Value) (hl : cs.length = n) (hc : (all.toList.drop o).take n = cs)
    (h : OW P ops Q rest (upd e d (.agg cs.toArray)) w) : OW P ops Q (⟨some d, .load t x, ty, pos, aft, none⟩ :: rest) e w :=
  OW_loadX ht hx cs hl (fun j u hu => by
    rw [addr_add_off, hb.cell]
    rw [← hc, List.getElem?_take] at hu
    split at hu
    · rw [List.getElem?_drop] at hu; simpa using hu
    · cases hu) h
theorem OW_storeAt {x y : Operand} {t T : TypeId} {n g o : Nat} {zs : List Value} (ht : AggT P t n zs) (hx : ev e x = .pointer (some ⟨g, o, none⟩)) (cs : List Value) (hy : ev e y = .agg cs.toArray) (hl : cs.length = n) {old : Array Value} (hb : Blk w g T old) (ho : o + n ≤ old.size) (h1 : ∀ v ∈ cs, v.oneCell' = true)
    (h : ∀ w', Blk w' g T (old.toList.take o ++ cs ++ old.toList.drop (o + n)).toArray → w.grownBy w' (some g) → OW P ops Q rest e w') : OW P ops Q (⟨none, .store t x y, ty, pos, aft, none⟩ :: rest) e w := by
  obtain ⟨td, hu, hd⟩ := ht.row
  refine OW_unit (w.setRow g (old.toList.take o ++ cs ++ old.toList.drop (o + n)).toArray) rfl rfl ?_ (h _ ?_ ?_)
  · have hst := run_storeCells_at P g o T cs 0 old w hb (by simpa [hl] using ho) h1
    have hagg : (isAgg t).run P w = .ok true w := by
      unfold isAgg
      rw [Sem.run_bind, run_underlying hu w]
      cases td <;> simp_all
    have hsv : (storeVar t ⟨g, o, none⟩ (.agg cs.toArray)).run P w = .ok () (w.setRow g (old.toList.take o ++ cs ++ old.toList.drop (o + n)).toArray) := by
      simp only [Nat.add_zero, hl] at hst
      have hi := ht.size
      cases hq : P.info? t with
      | none => simp [hq] at hi
      | some i =>
        have hs : i.size = n := by simpa [hq] using hi
        simp [storeVar, Sem.run_bind, hagg, sizeOf, typeInfo, hq, hs, hl, hst, Value.cells]
    simp only [execOp, hx, hy, Instr.storeAt, Instr.sureAddr, Sem.run_bind, Sem.run_pure, Result.andThen_ok, hsv]
  · exact setRow_heap w g old _ T (0, 0) hb
  · exact ⟨rfl, rfl, rfl, by simp, fun k hk hn => setRow_other w g k _ (fun hh => hn (by rw [hh]))⟩
/-- A slice of an array. -/
theorem OW_sliceA {x : Operand} {t el : TypeId} {g m : Nat} {lo hi : Option Operand} {lv hv : Int} (ht : P.underlying t = some (.array m el)) (hel : OneT P el) (hx : ev e x = .pointer (some ⟨g, 0, none⟩))
    (hlo : bnd e lo 0 lv) (hhi : bnd e hi m hv) (lN hN : Nat) (h1 : lv = (lN : Int)) (h2 : hv = (hN : Int)) (h3 : lN ≤ hN) (h4 : hN ≤ m) (h5 : lN < m)
    (h : OW P ops Q rest (upd e d (.slice (some ⟨g, lN, none⟩) (hN - lN) (m - lN))) w) : OW P ops Q (⟨some d, .slice t x lo hi none, ty, pos, aft, none⟩ :: rest) e w := by
  refine OW_val _ rfl ?_ h
  subst h1; subst h2
  obtain ⟨i, z, hi', hs, _, _⟩ := hel.info
  have hel' : P.elem t = el := by simp [Program.elem, ht]
  have hal : P.arrayLen t = m := by simp [Program.arrayLen, ht]
  have ht' : P.underlying t = some (.array (P.arrayLen t) (P.elem t)) := by rw [hel', hal]; exact ht
  have hsz : (sizeOf (P.elem t)).run P w = .ok 1 w := by rw [hel']; simp [sizeOf, typeInfo, hi', hs]
  have hne : ¬ m = lN := by omega
  have e0 : (⟨g, 0, none⟩ : Addr).add (lN * 1) = ⟨g, lN, none⟩ := by rw [Nat.mul_one, addr0]
  have e1 : (⟨g, 0, none⟩ : Addr).add 0 = ⟨g, 0, none⟩ := addr0 g 0
  have key : (Instr.sliceAt t (.pointer (some ⟨g, 0, none⟩)) (lo.map (ev e)) (hi.map (ev e)) none).run P w = .ok (.slice (some ⟨g, lN, none⟩) (hN - lN) (m - lN)) w := by
    cases lo with
    | none =>
      simp only [bnd] at hlo
      have hl0 : lN = 0 := by omega
      subst hl0
      cases hi with
      | none =>
        simp only [bnd] at hhi
        have : hN = m := by omega
        subst this
        simp [run_sliceAt_array_all (P := P) w t ⟨g, 0, none⟩ ht', hsz, slicedAt, hal, hne, e1]
      | some hi =>
        obtain ⟨k, hhi⟩ := hhi
        simp [hhi, run_sliceAt_array_h (P := P) w t ⟨g, 0, none⟩ ht' k hN (by omega) (by rw [hal]; omega), hsz, slicedAt, hal, hne, e1]
    | some lo =>
      obtain ⟨k, hlo⟩ := hlo
      cases hi with
      | none =>
        simp only [bnd] at hhi
        have : hN = m := by omega
        subst this
        simp [hlo, run_sliceAt_array_l (P := P) w t ⟨g, 0, none⟩ ht' k lN (by omega) (by rw [hal]; omega), hsz, slicedAt, hal, hne, e0]
        simpa using e0
      | some hi =>
        obtain ⟨k2, hhi⟩ := hhi
        simp [hlo, hhi, run_sliceAt_array_lh (P := P) w t ⟨g, 0, none⟩ ht' k k2 lN hN (by omega) (by omega) (by rw [hal]; omega), hsz, slicedAt, hal, hne]
        simpa using e0
  simp only [execOp, hx, Option.map_none, Sem.run_bind, key]
  rfl
/-- Copied into a block. -/
theorem OW_copyR {x y : Operand} {t t2 el T : TypeId} {g o dLen dCap sLen sCap : Nat} {a : Addr} {cur : Array Value} (ht : P.underlying t = some (.slice el)) (hel : OneT P el) (hx : ev e x = .slice (some ⟨g, o, none⟩) dLen dCap) (hy : ev e y = .slice (some a) sLen sCap)
    (hb : Blk w g T cur) (cs : List Value) (hs : At w a cs) (hn : cs.length = Nat.min sLen dLen) (hf : o + cs.length ≤ cur.size) (h1 : ∀ v ∈ cs, v.oneCell' = true)
    (h : ∀ w', Blk w' g T (cur.toList.take o ++ cs ++ cur.toList.drop (o + cs.length)).toArray → w.grownBy w' (some g) → OW P ops Q rest (upd e d (.int .i64 cs.length)) w') :
    OW P ops Q (⟨some d, .call { callee := .builtin .copy, args := #[x, y], argTypes := #[t, t2] }, ty, pos, aft, none⟩ :: rest) e w := by
  obtain ⟨i, z, hi', hsz, _, _⟩ := hel.info
  refine OW_valw (.int .i64 cs.length) (w.setRow g (cur.toList.take o ++ cs ++ cur.toList.drop (o + cs.length)).toArray) rfl ?_ (h _ (setRow_heap w g cur _ T (0, 0) hb) ⟨rfl, rfl, rfl, by simp, fun k hk hn => setRow_other w g k _ (fun hh => hn (by rw [hh]))⟩)
  have := run_copy_row P w t t2 ty el g o dLen dCap a sLen sCap cur T cs ht (by simp [hi', hsz]) hb hn hs hf h1
  simp [execOp, resolve, invoke, builtin, hx, hy, this, goInt]
/-- An array that is written out whole. -/
theorem OW_buildA {t el : TypeId} {n : Nat} {zs : List Value} {parts : Array (Nat × Operand)} (hA : AggT P t n zs) (ht : P.underlying t = some (.array n el)) (hel : OneT P el) (hzl : zs.length = n) (vs : List Value) (hp : parts.toList.map (fun x => (x.1, ev e x.2)) = idxParts vs 0) (hn : vs.length = n) (h1 : ∀ v ∈ vs, v.oneCell' = true)
    (h : OW P ops Q rest (upd e d (.agg vs.toArray)) w) : OW P ops Q (⟨some d, .build t parts, ty, pos, aft, none⟩ :: rest) e w := by
  refine OW_val _ rfl ?_ h
  obtain ⟨i, z, hi', hsz, _, _⟩ := hel.info
  have hpp : (parts.map fun x => (x.1, ev e x.2)).toList = idxParts vs 0 := by rw [Array.toList_map]; exact hp
  have key : Instr.fill (fun i => some (i * 1, 1)) zs.toArray (parts.map fun x => (x.1, ev e x.2)).toList = some vs.toArray := by
    rw [hpp, fill_parts vs 0 zs.toArray h1 (by simp [hzl, hn])]
    simp
  have hrun : (Instr.build t (parts.map fun x => (x.1, ev e x.2))).run P w = .ok (.agg vs.toArray) w := by
    simp only [Instr.build, Sem.run_bind, hA.zero w, Result.andThen_ok, run_underlying ht, sizeOf, typeInfo_run hi', hsz, Sem.run_pure, Value.cells, key]
  simp only [execOp, Sem.run_bind]
  rw [show (parts.map fun (x : Nat × Operand) => match x with | (i, x) => (i, ev e x)) = parts.map fun x => (x.1, ev e x.2) from rfl, hrun]
  rfl
/-- An element of an array's value. -/
theorem OW_indexA {x y : Operand} {t el : TypeId} {n : Nat} {cs : Array Value} {k : IntKind} {j : Int} (ht : P.underlying t = some (.array n el)) (hel : OneT P el) (hx : ev e x = .agg cs) (hy : ev e y = .int k j) (jN : Nat) (hj : j = (jN : Int)) (hn : jN < n) (v : Value) (hv : cs[jN]? = some v)
    (h : OW P ops Q rest (upd e d v) w) : OW P ops Q (⟨some d, .index t x y, ty, pos, aft, none⟩ :: rest) e w := by
  refine OW_val _ rfl ?_ h
  obtain ⟨i, z, hi', hsz, _, _⟩ := hel.info
  subst hj
  have hagg := hel.agg w
  simp [execOp, hx, hy, Instr.index, asIntOf, run_underlying ht, sizeOf, typeInfo, hi', hsz, hn, part, hagg, hv]
end
end Go.Proofs.Ytdpomchhbbopbaa

/- '==' and '!=' on strings, on rows of bytes, on structs. No program in sight. -/
namespace Go.Proofs.Ytdpomchhbbopbaa
open Go Go.RowKit Go.ChangeShapes Go.WideShapes
set_option linter.unusedVariables false
theorem bytes_toList_beq (a b : ByteArray) : (a.toList == b.toList) = decide (a = b) := by
  rw [← beq_toListBytes, Bool.eq_iff_iff, MapKept.bytes_beq, decide_eq_true_iff]
/-- What can be compared whole. -/
structure EqX (P : Program) (t : TypeId) : Prop where
  key : ∃ m, m ≤ 10000 ∧ P.keyTypeAt m t = true
  guard : P.eqGuardType P.depth t = false
theorem run_eqX {P : Program} {t : TypeId} (hq : EqX P t) {xs ys : List Value} {L L' : List Lit} {D D' : Nat} (fx : (Value.agg xs.toArray).formed P t = true) (fy : (Value.agg ys.toArray).formed P t = true)
    (hx : P.keyLits D t xs = some L) (hy : P.keyLits D' t ys = some L') (w : World) : ∃ r : Bool, (Op.equalIn 10000 t (.agg xs.toArray) (.agg ys.toArray)).run P w = .ok r w ∧ (r = true ↔ L = L') := by
  obtain ⟨m, hm, hk⟩ := hq.key
  obtain ⟨r, hr, hiff⟩ := run_equalIn_deep (10000 - m) m t hk w D D' (.agg xs.toArray) (.agg ys.toArray) L L' fx fy (by simpa [Value.cells] using hx) (by simpa [Value.cells] using hy)
  rw [show 10000 - m + m = 10000 by omega] at hr
  exact ⟨r, hr, hiff⟩
section
variable {P : Program} {ops : Array Oper} {Q : Exit → (Nat → Value) → World → Prop} {rest : List Oper} {e : Nat → Value} {w : World} {d : Tmp} {ty : TypeId} {pos : String} {aft : Array Edge}
theorem OW_eqlS {x y : Operand} {t t' : TypeId} {a b : ByteArray} (hx : ev e x = .string a) (hy : ev e y = .string b) (h : OW P ops Q rest (upd e d (.bool (decide (a = b)))) w) : OW P ops Q (⟨some d, .binOp .eql t x y t', ty, pos, aft, none⟩ :: rest) e w :=
  OW_val _ rfl (by simp only [execOp, hx, hy, eqGuard, binOp_string_eql, bytes_toList_beq]; rfl) h
theorem OW_neqS {x y : Operand} {t t' : TypeId} {a b : ByteArray} (hx : ev e x = .string a) (hy : ev e y = .string b) (h : OW P ops Q rest (upd e d (.bool (!decide (a = b)))) w) : OW P ops Q (⟨some d, .binOp .neq t x y t', ty, pos, aft, none⟩ :: rest) e w :=
  OW_val _ rfl (by simp only [execOp, hx, hy, eqGuard, binOp_string_neq, bytes_toList_beq]; rfl) h
theorem OW_eqlX {x y : Operand} {t t' : TypeId} (hq : EqX P t) {xs ys : List Value} {L L' : List Lit} {D D' : Nat} (hx : ev e x = .agg xs.toArray) (hy : ev e y = .agg ys.toArray) (fx : (Value.agg xs.toArray).formed P t = true) (fy : (Value.agg ys.toArray).formed P t = true)
    (kx : P.keyLits D t xs = some L) (ky : P.keyLits D' t ys = some L') (h : ∀ r : Bool, (r = true ↔ L = L') → OW P ops Q rest (upd e d (.bool r)) w) : OW P ops Q (⟨some d, .binOp .eql t x y t', ty, pos, aft, none⟩ :: rest) e w := by
  obtain ⟨r, hr, hiff⟩ := run_eqX hq fx fy kx ky w
  refine OW_val _ rfl ?_ (h r hiff)
  simp only [execOp, hx, hy, Sem.run_bind, run_eqGuard_agg w .eql t x y xs.toArray ys.toArray hq.guard, Result.andThen_ok, run_eql_struct, hr]
  rfl
theorem OW_neqX {x y : Operand} {t t' : TypeId} (hq : EqX P t) {xs ys : List Value} {L L' : List Lit} {D D' : Nat} (hx : ev e x = .agg xs.toArray) (hy : ev e y = .agg ys.toArray) (fx : (Value.agg xs.toArray).formed P t = true) (fy : (Value.agg ys.toArray).formed P t = true)
    (kx : P.keyLits D t xs = some L) (ky : P.keyLits D' t ys = some L') (h : ∀ r : Bool, (r = true ↔ L = L') → OW P ops Q rest (upd e d (.bool (!r))) w) : OW P ops Q (⟨some d, .binOp .neq t x y t', ty, pos, aft, none⟩ :: rest) e w := by
  obtain ⟨r, hr, hiff⟩ := run_eqX hq fx fy kx ky w
  refine OW_val _ rfl ?_ (h r hiff)
  simp only [execOp, hx, hy, Sem.run_bind, run_eqGuard_agg w .neq t x y xs.toArray ys.toArray hq.guard, Result.andThen_ok, run_neq_struct, hr]
  rfl
end
def litB (b : UInt8) : Lit := .int .u8 (b.toNat : Int)
theorem litB_inj {a b : UInt8} (h : litB a = litB b) : a = b := by
  unfold litB at h
  injection h with _ h
  exact UInt8.toNat_inj.1 (by omega)
theorem litsB_inj {a b : List UInt8} (h : a.map litB = b.map litB) : a = b := (List.map_inj_right (fun _ _ => litB_inj)).1 h
theorem keyLits_u8 {P : Program} {e : TypeId} (he : P.underlying e = some (.int .u8)) (D : Nat) (b : UInt8) : P.keyLits (D + 1) e [bv b] = some [litB b] := by
  unfold Program.keyLits
  rw [he]
  have hw : (Lit.int .u8 (b.toNat : Int)).wf = true := by
    have := b.toNat_lt
    simp [Lit.wf, IntKind.min, IntKind.max, IntKind.signed, IntKind.bits]; omega
  simp [bv, hw, litB]
theorem keyLits_arr {P : Program} {t e : TypeId} {n : Nat} (ht : P.underlying t = some (.array n e)) (he : P.underlying e = some (.int .u8)) (hc : P.cellsOf e = 1) (hn : P.cellsOf t = n) (D : Nat) {l : List UInt8} (hl : l.length = n) :
    P.keyLits (D + 2) t (l.map bv) = some (l.map litB) := by
  unfold Program.keyLits
  rw [ht]
  have h1 : (List.range n).mapM (fun i => P.keyLits (D + 1) e (((l.map bv).drop (i * P.cellsOf e)).take (P.cellsOf e))) = some ((List.range n).map fun i => [litB (l.getD i 0)]) := by
    refine mapM_range_of n fun i hi => ?_
    rw [hc, Nat.mul_one, List.drop_eq_getElem_cons (by simp; omega)]
    simp only [List.take_succ_cons, List.take_zero, List.getElem_map]
    rw [keyLits_u8 he, List.getD_eq_getElem?_getD, List.getElem?_eq_getElem (by omega)]
    rfl
  simp only [List.length_map, hl, hn, if_true, h1, Option.map_some]
  congr 1
  apply List.ext_getElem?
  intro i
  have hf : ((List.range n).map fun i => [litB (l.getD i 0)]).flatten = (List.range n).map fun i => litB (l.getD i 0) := by
    generalize List.range n = r
    induction r with
    | nil => rfl
    | cons a r ih => rw [List.map_cons, List.flatten_cons, ih]; rfl
  rw [hf]
  by_cases hi : i < n
  · simp [hi, hl]
  · rw [List.getElem?_eq_none (by simp; omega), List.getElem?_eq_none (by simp; omega)]
/-- A row of bytes that can be compared. -/
structure EqR (P : Program) (t : TypeId) (n : Nat) : Prop where
  eqx : EqX P t
  row : ∃ e, P.underlying t = some (.array n e) ∧ P.underlying e = some (.int .u8) ∧ P.cellsOf e = 1
  size : P.cellsOf t = n
section
variable {P : Program} {ops : Array Oper} {Q : Exit → (Nat → Value) → World → Prop} {rest : List Oper} {e : Nat → Value} {w : World} {d : Tmp} {ty : TypeId} {pos : String} {aft : Array Edge}
theorem EqR.formed {t : TypeId} {n : Nat} (hq : EqR P t n) {l : List UInt8} (hl : l.length = n) : (Value.agg (l.map bv).toArray).formed P t = true := by
  obtain ⟨el, h1, _⟩ := hq.row
  simp [Value.formed, h1, hq.size, hl]
theorem OW_eqlR {x y : Operand} {t t' : TypeId} {n : Nat} (hq : EqR P t n) {a b : List UInt8} (hx : ev e x = .agg (a.map bv).toArray) (hy : ev e y = .agg (b.map bv).toArray) (ha : a.length = n) (hb : b.length = n)
    (h : OW P ops Q rest (upd e d (.bool (decide (a = b)))) w) : OW P ops Q (⟨some d, .binOp .eql t x y t', ty, pos, aft, none⟩ :: rest) e w := by
  obtain ⟨el, h1, h2, h3⟩ := hq.row
  refine OW_eqlX hq.eqx hx hy (hq.formed ha) (hq.formed hb) (keyLits_arr h1 h2 h3 hq.size 0 ha) (keyLits_arr h1 h2 h3 hq.size 0 hb) (fun r hr => ?_)
  have : r = decide (a = b) := by rw [Bool.eq_iff_iff, hr, decide_eq_true_iff]; exact ⟨litsB_inj, fun h => by rw [h]⟩
  rw [this]
  exact h
theorem OW_neqR {x y : Operand} {t t' : TypeId} {n : Nat} (hq : EqR P t n) {a b : List UInt8} (hx : ev e x = .agg (a.map bv).toArray) (hy : ev e y = .agg (b.map bv).toArray) (ha : a.length = n) (hb : b.length = n)
    (h : OW P ops Q rest (upd e d (.bool (!decide (a = b)))) w) : OW P ops Q (⟨some d, .binOp .neq t x y t', ty, pos, aft, none⟩ :: rest) e w := by
  obtain ⟨el, h1, h2, h3⟩ := hq.row
  refine OW_neqX hq.eqx hx hy (hq.formed ha) (hq.formed hb) (keyLits_arr h1 h2 h3 hq.size 0 ha) (keyLits_arr h1 h2 h3 hq.size 0 hb) (fun r hr => ?_)
  have : r = decide (a = b) := by rw [Bool.eq_iff_iff, hr, decide_eq_true_iff]; exact ⟨litsB_inj, fun h => by rw [h]⟩
  rw [this]
  exact h
end
end Go.Proofs.Ytdpomchhbbopbaa

/- The types' rows of SHA. -/
namespace Go.Proofs.Ytdpomchhbbopbaa
open Go Go.RowKit
def tzS : List UInt8 := List.replicate 32 0
theorem one_u32 : OneT Try.prog 118 := ⟨.int .u32 0, 4, by kernel_rfl, rfl, by kernel_rfl⟩
theorem info_u32 : (Try.prog.info? 118).map (fun i => (i.zero, i.size, i.bytes)) = some (some (.int .u32 0), 1, 4) := by kernel_rfl
theorem s_int : OneT Try.prog 3 := ⟨.int .i64 0, 8, by kernel_rfl, rfl, by kernel_rfl⟩
theorem s_bool : OneT Try.prog 4 := ⟨.bool false, 1, by kernel_rfl, rfl, by kernel_rfl⟩
theorem s_errno : OneT Try.prog 22 := ⟨.int .i64 0, 8, by kernel_rfl, rfl, by kernel_rfl⟩
theorem s_und_Tag : Try.prog.underlying 25 = some (.array 32 5) := Try.underlying25
theorem s_agg_Tag : AggT Try.prog 25 32 (tzS.map bv) := ⟨⟨_, Try.underlying25, rfl⟩, by kernel_rfl, fun w => by kernel_rfl⟩
theorem s_eqr_Tag : EqR Try.prog 25 32 := ⟨⟨⟨2, by decide, by kernel_rfl⟩, by kernel_rfl⟩, ⟨_, s_und_Tag, und_u8, by kernel_rfl⟩, by kernel_rfl⟩
theorem uv_one (l : List UInt32) : ∀ v ∈ l.map uv, v.oneCell' = true := by
  intro v hv
  obtain ⟨x, _, rfl⟩ := List.mem_map.1 hv
  rfl
end Go.Proofs.Ytdpomchhbbopbaa

/- Data that comes in: plain types and lists of them. -/
namespace Go.Proofs.Ytdpomchhbbopbaa
open Go Go.RowKit Go.ChangeShapes Go.WideShapes
set_option linter.unusedVariables false
theorem okWide_array {P : Program} {w : World} {r : Reach} {base : Nat} {t el : TypeId} {m : Nat} {v : Value} (ht : P.underlying t = some (.array m el)) (h : Value.okWide P w r base t v) : ∃ cs, v = .agg cs ∧ cs.size = P.cellsOf t := by
  simp only [Value.okWide, ht] at h
  obtain ⟨cs, h1, h2, _⟩ := h
  exact ⟨cs, h1, h2⟩
theorem kd_arr {P : Program} {t el : TypeId} {m : Nat} {α : Type} {H : Type} {enc : TypeId × Value → H} {w : World} {v : Value} {d : DataW H} {ps : List MemPlace} {r : Reach} {b0 : Nat} (k : KD P t α) (ht : P.underlying t = some (.array m el)) (hv : Value.okWide P w r b0 t v) (h : DataW.Trod enc P w 0 (fun _ => true) true t v d ps) (hw : WOk P t d) : ∃ cs a, v = .agg cs.toArray ∧ k.R w cs a := by
  obtain ⟨cs, rfl, hsz⟩ := okWide_array ht hv
  obtain ⟨fuel, hf⟩ := h
  obtain ⟨a, ha⟩ := k.opn hf hw
  exact ⟨cs.toList, a, by simp, ha⟩
def kI : KD Try.prog 3 Int := kInt und_int (by kernel_rfl)
def kB8 : KD Try.prog 5 UInt8 := kU8 und_u8 (by kernel_rfl)
def kBo : KD Try.prog 4 Bool := kBool und_bool (by kernel_rfl)
def kSt : KD Try.prog 9 ByteArray := kStr Try.underlying9 (by kernel_rfl)
def kBs : KD Try.prog 31 (List UInt8) := kBytes und_bytes und_u8 (by kernel_rfl) (by kernel_rfl) (of_decide_eq_true (by kernel_rfl))
def kTag : KD Try.prog 25 (List UInt8) := kArr s_und_Tag und_u8 (by kernel_rfl) (by kernel_rfl)
theorem und_ints : Try.prog.underlying 99 = some (.slice 3) := Try.underlying99
def kIs : KD Try.prog 99 (List Int) := kSlice kI und_ints (by kernel_rfl) (of_decide_eq_true (by kernel_rfl))
def kBss : KD Try.prog 127 (List (List UInt8)) := kSlice kBs und_bytess (by kernel_rfl) (of_decide_eq_true (by kernel_rfl))
/-- A slice of numbers. -/
def Is (w : World) (A : Option Addr) (l : List Int) : Prop := Rd w A (l.map iv)
theorem Is.ext {w w' : World} {A : Option Addr} {l : List Int} (h : Is w A l) (hx : Ext w w') : Is w' A l := Rd.ext h hx
theorem Is.at_ {w : World} {A : Option Addr} {l : List Int} (h : Is w A l) {j : Nat} (hj : j < l.length) : ∃ ad, A = some ad ∧ w.cell? (ad.add j) = some (.int .i64 l[j]) := by
  obtain ⟨ad, ha, hc⟩ := Rd.at_ h (j := j) (by simpa using hj)
  exact ⟨ad, ha, by simpa [iv] using hc⟩
theorem slr_one {w : World} {A : Option Addr} {α : Type} {R : World → List Value → α → Prop} {l : List α} (f : α → Value) (hf : ∀ cs a, R w cs a → cs = [f a]) (h : SlR 1 R w A l) : Rd w A (l.map f) := by
  intro j u hu
  have hj : j < l.length := by have := (List.getElem?_eq_some_iff.1 hu).1; simpa using this
  obtain ⟨ad, ce, e1, e2, e3, e4⟩ := h j hj
  have := hf _ _ e4
  subst this
  refine ⟨ad, e1, ?_⟩
  have h0 := e3 0 (f l[j]) rfl
  rw [addr_add_add, Nat.mul_one, Nat.add_zero] at h0
  rw [h0, ← hu, List.getElem?_map, List.getElem?_eq_getElem hj]
  rfl
theorem is_of {w : World} {A : Option Addr} {l : List Int} (h : SlR kI.n kI.R w A l) : Is w A l := slr_one iv (fun cs a hr => hr.1) h
theorem i64s_of {w : World} {A : Option Addr} {l : List Int} (h : SlR kI.n kI.R w A l) : ∀ n ∈ l, I64 n := fun n hn => by
  obtain ⟨i, hi, rfl⟩ := List.mem_iff_getElem.1 hn
  obtain ⟨ad, ce, e1, e2, e3, e4⟩ := h i hi
  exact e4.2
end Go.Proofs.Ytdpomchhbbopbaa

/- The types of package wire: their rows, their fields' places. -/
namespace Go.Proofs.Ytdpomchhbbopbaa
open Go Go.RowKit
theorem und_pw : Try.prog.underlying 54 = some (.pointer 57) := Try.underlying54
theorem und_pr : Try.prog.underlying 55 = some (.pointer 60) := Try.underlying55
theorem one_bool : OneT Try.prog 4 := ⟨.bool false, 1, by kernel_rfl, rfl, by kernel_rfl⟩
theorem one_errno : OneT Try.prog 22 := ⟨.int .i64 0, 8, by kernel_rfl, rfl, by kernel_rfl⟩
theorem fld_W0 : Fld Try.prog 57 0 := ⟨fun w g => by kernel_rfl⟩
theorem fld_W1 : Fld Try.prog 57 1 := ⟨fun w g => by kernel_rfl⟩
theorem fld_W2 : Fld Try.prog 57 2 := ⟨fun w g => by kernel_rfl⟩
theorem fld_R0 : Fld Try.prog 60 0 := ⟨fun w g => by kernel_rfl⟩
theorem fld_R1 : Fld Try.prog 60 1 := ⟨fun w g => by kernel_rfl⟩
theorem fld_R2 : Fld Try.prog 60 2 := ⟨fun w g => by kernel_rfl⟩
theorem bld_W : ∀ w, (Instr.build 57 [(0, .bool true)].toArray).run Try.prog w = .ok (.agg #[.bool true, .bool false, .slice none 0 0]) w := fun w => by kernel_rfl
theorem bld_Rlong : ∀ w, (Instr.build 60 [(0, .bool true), (2, .int .i64 3)].toArray).run Try.prog w = .ok (.agg #[.bool true, .slice none 0 0, .int .i64 3]) w := fun w => by kernel_rfl
theorem bld_R : ∀ w A n c, (Instr.build 60 [(0, .bool true), (1, .slice A n c)].toArray).run Try.prog w = .ok (.agg #[.bool true, .slice A n c, .int .i64 0]) w := fun w A n c => by kernel_rfl
theorem und_string : Try.prog.underlying 9 = some .string := Try.underlying9
theorem slp_Tag : SlP Try.prog 25 32 := ⟨fun w g => by kernel_rfl⟩
end Go.Proofs.Ytdpomchhbbopbaa

/- Walks: the functions of package words and of the reference 01, from the leaves up. -/
namespace Go.Proofs.Ytdpomchhbbopbaa
open Go Go.RowKit
set_option linter.unusedVariables false

theorem go_Words1 {A B : Prop} (h : Held B → A := by
  intro hEnd
  repeat (first | refine OW_moveV (.int _ _) rfl ?_ | refine OW_moveV (.slice _ _ _) rfl ?_ | refine OW_moveV (.bool _) rfl ?_ | refine OW_moveV (.pointer _) rfl ?_ | refine OW_moveV (.string _) rfl ?_ | refine OW_moveV (.agg _) rfl ?_ | refine OW_moveV (.tuple _) rfl ?_ | refine OW_nil ?_ | refine thenE_normal ?_ | refine CW_seq ?_ | refine CW_region (by kernel_rfl) ?_ | refine OW_assignV (.int _ _) rfl ?_ | refine OW_assignV (.slice _ _ _) rfl ?_ | refine OW_assignV (.bool _) rfl ?_ | refine OW_assignV (.pointer _) rfl ?_ | refine OW_assignV (.string _) rfl ?_ | refine OW_assignV (.agg _) rfl ?_ | refine OW_assignV (.tuple _) rfl ?_ | refine OW_addI rfl rfl (by omega) ?_ | refine OW_subI rfl rfl (by omega) ?_ | refine OW_mulI rfl rfl (by omega) ?_ | refine OW_lss rfl rfl ?_ | refine OW_extract rfl rfl ?_ | refine OW_gtr rfl rfl ?_ | refine OW_leq rfl rfl ?_ | refine OW_geq rfl rfl ?_ | refine OW_eql rfl rfl ?_ | refine OW_neq rfl rfl ?_ | refine OW_not rfl ?_ | refine OW_pickT rfl _ rfl ?_ | refine OW_pickF rfl (.bool _) rfl ?_ | refine OW_pickB rfl rfl rfl ?_ | refine OW_move ?_ | refine OW_assign ?_ | refine OW_pass rfl ?_ | refine OW_take rfl ?_ | refine OW_lenS (by first | with_reducible exact und_bytes | with_reducible exact und_bytess) rfl ?_ | refine OW_convInt (by first | with_reducible exact und_u8 | with_reducible exact und_u64 | with_reducible exact und_int | with_reducible exact und_u32) (by first | with_reducible exact und_u8 | with_reducible exact und_u64 | with_reducible exact und_int | with_reducible exact und_u32) rfl ?_ | refine OW_add rfl rfl ?_ | refine OW_sub rfl rfl ?_ | refine OW_mul rfl rfl ?_ | refine OW_min2 rfl rfl ?_ | refine OW_max2 rfl rfl ?_ | refine OW_neg rfl ?_ | refine CW_block ?_ | refine CW_condT rfl ?_ | refine CW_condF rfl ?_ | refine CW_exit ?_ | refine CW_ret ?_ | refine CW_skip ?_ | refine LW_seq ?_ | refine LW_regC ?_ | refine LW_condC ?_ | refine LW_regF ?_ | refine LW_condF ?_ | refine FW_seq ?_ | refine FW_region (by kernel_rfl) ?_ | refine FW_block ?_ | refine FW_condT rfl ?_ | refine FW_condF rfl ?_ | refine FW_exit ?_ | refine FW_ret ?_ | refine FW_skip ?_ | refine LW_ret ?_ | refine LW_skip ?_ | refine thenE_exit ?_ | refine thenE_ret ?_ | refine inBlockE_normal ?_ | refine inBlockE_same ?_ | refine inBlockE_ret ?_ | refine inBlockE_ne (by rfl) ?_ | refine OW_eqlB (by with_reducible exact und_bool) rfl rfl ?_ | refine OW_neqB (by with_reducible exact und_bool) rfl rfl ?_ | refine OW_idxS (by with_reducible exact und_bytes) one_u8 rfl rfl _ rfl (by omega) ?_ | refine OW_idxS (by with_reducible exact und_bytess) one_bytes rfl rfl _ rfl (by omega) ?_ | refine OW_load1 (by first | with_reducible exact one_u8 | with_reducible exact one_bytes) rfl _ (by assumption) ?_)
  exact hEnd.out) (k : B) : A := h ⟨k⟩
theorem od_Words1 {A B : Prop} (h : Held B → A := by
  intro hEnd
  repeat (first
    | refine OD_pass rfl ?_
    | refine OD_take rfl ?_
    | (apply OD_step
       · intro wd hwd
         (first | refine OW_moveV (.int _ _) rfl ?_ | refine OW_moveV (.slice _ _ _) rfl ?_ | refine OW_moveV (.bool _) rfl ?_ | refine OW_moveV (.pointer _) rfl ?_ | refine OW_moveV (.string _) rfl ?_ | refine OW_moveV (.agg _) rfl ?_ | refine OW_moveV (.tuple _) rfl ?_ | refine OW_nil ?_ | refine thenE_normal ?_ | refine CW_seq ?_ | refine CW_region (by kernel_rfl) ?_ | refine OW_assignV (.int _ _) rfl ?_ | refine OW_assignV (.slice _ _ _) rfl ?_ | refine OW_assignV (.bool _) rfl ?_ | refine OW_assignV (.pointer _) rfl ?_ | refine OW_assignV (.string _) rfl ?_ | refine OW_assignV (.agg _) rfl ?_ | refine OW_assignV (.tuple _) rfl ?_ | refine OW_addI rfl rfl (by omega) ?_ | refine OW_subI rfl rfl (by omega) ?_ | refine OW_mulI rfl rfl (by omega) ?_ | refine OW_lss rfl rfl ?_ | refine OW_extract rfl rfl ?_ | refine OW_gtr rfl rfl ?_ | refine OW_leq rfl rfl ?_ | refine OW_geq rfl rfl ?_ | refine OW_eql rfl rfl ?_ | refine OW_neq rfl rfl ?_ | refine OW_not rfl ?_ | refine OW_pickT rfl _ rfl ?_ | refine OW_pickF rfl (.bool _) rfl ?_ | refine OW_pickB rfl rfl rfl ?_ | refine OW_move ?_ | refine OW_assign ?_ | refine OW_pass rfl ?_ | refine OW_take rfl ?_ | refine OW_lenS (by first | with_reducible exact und_bytes | with_reducible exact und_bytess) rfl ?_ | refine OW_convInt (by first | with_reducible exact und_u8 | with_reducible exact und_u64 | with_reducible exact und_int | with_reducible exact und_u32) (by first | with_reducible exact und_u8 | with_reducible exact und_u64 | with_reducible exact und_int | with_reducible exact und_u32) rfl ?_ | refine OW_add rfl rfl ?_ | refine OW_sub rfl rfl ?_ | refine OW_mul rfl rfl ?_ | refine OW_min2 rfl rfl ?_ | refine OW_max2 rfl rfl ?_ | refine OW_neg rfl ?_ | refine CW_block ?_ | refine CW_condT rfl ?_ | refine CW_condF rfl ?_ | refine CW_exit ?_ | refine CW_ret ?_ | refine CW_skip ?_ | refine LW_seq ?_ | refine LW_regC ?_ | refine LW_condC ?_ | refine LW_regF ?_ | refine LW_condF ?_ | refine FW_seq ?_ | refine FW_region (by kernel_rfl) ?_ | refine FW_block ?_ | refine FW_condT rfl ?_ | refine FW_condF rfl ?_ | refine FW_exit ?_ | refine FW_ret ?_ | refine FW_skip ?_ | refine LW_ret ?_ | refine LW_skip ?_ | refine thenE_exit ?_ | refine thenE_ret ?_ | refine inBlockE_normal ?_ | refine inBlockE_same ?_ | refine inBlockE_ret ?_ | refine inBlockE_ne (by rfl) ?_ | refine OW_eqlB (by with_reducible exact und_bool) rfl rfl ?_ | refine OW_neqB (by with_reducible exact und_bool) rfl rfl ?_ | refine OW_idxS (by with_reducible exact und_bytes) one_u8 rfl rfl _ rfl (by omega) ?_ | refine OW_idxS (by with_reducible exact und_bytess) one_bytes rfl rfl _ rfl (by omega) ?_ | refine OW_load1 (by first | with_reducible exact one_u8 | with_reducible exact one_bytes) rfl _ (by assumption) ?_ | refine OW_load1 (by with_reducible exact one_u8) rfl _ (by first | exact hwd.cell' (by assumption) | (subst hwd; assumption)) ?_)
         refine OW_nil ?_
         exact stay_mk _ _ _ _))
  exact hEnd.out) (k : B) : A := h ⟨k⟩
set_option maxHeartbeats 8000000 in
theorem refCat_any (w : World) (A B : Option Addr) (a b : List UInt8) (c c' : Nat) (ha : Bs w A a) (hb : Bs w B b) (hl : a.length + b.length ≤ 1000000) :
    Calls Try.prog 63 #[.slice A a.length c, .slice B b.length c'] w (RetBs 5 w (a ++ b)) := by
  refine calls_of_CW Try.func63 rfl (by simp [Try.ntmps63]) ?_
  rw [Try.ntmps63]
  refine go_Words1 (k := ?_)
  refine OW_append0 (base := w.heap.size) und_bytes info_u8 rfl rfl rfl ha (by simp) (bv_one _) (by unfold maxLen; omega) (by omega) (Nat.le_refl _) ?_
  intro w1 A1 c1 ho1 hb1
  refine go_Words1 (k := ?_)
  refine OW_append und_bytes info_u8 rfl rfl rfl ho1 (hb.ext hb1) (by simp) (bv_one _) (by unfold maxLen; omega) (by omega) hb1.size ?_
  intro w2 A2 c2 ho2 hb2
  refine go_Words1 (k := ?_)
  refine bodyE_ret1 rfl (.slice _ _ _) rfl ?_
  exact ⟨A2, c2, by simp, by simpa using ho2, hb1.trans hb2⟩

set_option maxHeartbeats 8000000 in
theorem refCopy_any (w : World) (A : Option Addr) (a : List UInt8) (c : Nat) (ha : Bs w A a) (hl : a.length ≤ 1000000) :
    Calls Try.prog 22 #[.slice A a.length c] w (RetBs 5 w a) := by
  refine calls_of_CW Try.func22 rfl (by simp [Try.ntmps22]) ?_
  rw [Try.ntmps22]
  refine go_Words1 (k := ?_)
  refine OW_callBs Try.func63 (by kernel_rfl) rfl (refCat_any w A none a [] c 0 ha (Bs.nil _ _) (by simpa using hl)) rfl ?_
  intro w1 A1 c1 h1
  rw [List.append_nil] at h1 ⊢
  refine go_Words1 (k := ?_)
  exact bodyE_ret1 rfl (.slice A1 a.length c1) rfl ⟨A1, c1, rfl, h1⟩

def sameUpTo (a b : List UInt8) (k : Nat) : Prop := ∀ j, j < k → a[j]? = b[j]?
theorem same_all {a b : List UInt8} (h : sameUpTo a b a.length) (hl : a.length = b.length) : a = b := by
  apply List.ext_getElem?
  intro j
  by_cases hj : j < a.length
  · exact h j hj
  · rw [List.getElem?_eq_none (by omega), List.getElem?_eq_none (by omega)]
theorem bv_inj {x y : UInt8} (h : (x.toNat : Int) = y.toNat) : x = y := UInt8.toNat_inj.1 (by omega)
set_option maxHeartbeats 8000000 in
theorem refSame_any (w : World) (A B : Option Addr) (a b : List UInt8) (c c' : Nat) (ha : Bs w A a) (hb : Bs w B b) (hl : a.length ≤ 1000000 ∧ b.length ≤ 1000000) :
    Calls Try.prog 19 #[.slice A a.length c, .slice B b.length c'] w (RetV w (.bool (a == b))) := by
  refine calls_of_CW Try.func19 rfl (by simp [Try.ntmps19]) ?_
  rw [Try.ntmps19]
  refine go_Words1 (k := ?_)
  refine CW_cond _ rfl (fun hne => ?_) (fun heq => ?_)
  · have hr : (a == b) = false := by
      rw [beq_eq_false_iff_ne]; rintro rfl; simp at hne
    refine go_Words1 (k := ?_)
    exact bodyE_ret1 rfl (.bool false) rfl ⟨by rw [hr], Ext.rfl' w⟩
  · have hlen : a.length = b.length := by simp at heq; omega
    refine go_Words1 (k := ?_)
    refine CW_loop (fun e' w' => ∃ k : Nat, k ≤ a.length ∧ e' 0 = .slice A a.length c ∧ e' 1 = .slice B b.length c' ∧ e' 5 = .int .i64 k ∧ sameUpTo a b k ∧ Ext w w') (fun e' _ => a.length - (intOf (e' 5)).toNat) ?_ ?_
    · exact ⟨0, Nat.zero_le _, rfl, rfl, rfl, fun j h => by omega, Ext.rfl' w⟩
    · rintro e' w' ⟨k, hk, e0, e1, e5, hs, hw⟩
      rw [upd_self e0, upd_self e1, upd_self e5]
      have hA := ha.ext hw
      have hB := hb.ext hw
      refine go_Words1 (k := ?_)
      refine CW_cond _ rfl (fun h => ?_) (fun h => ?_)
      · have hlt : k < a.length := by simpa using h
        obtain ⟨ad, hA1, hcA⟩ := hA.at_ hlt
        obtain ⟨bd, hB1, hcB⟩ := hB.at_ (show k < b.length by omega)
        subst hA1; subst hB1
        refine go_Words1 (k := ?_)
        refine CW_draw (by kernel_rfl) (by kernel_rfl) (by kernel_rfl) ?_
        refine od_Words1 (k := ?_)
        refine OD_nil ?_
        intro w1 hw1
        refine go_Words1 (k := ?_)
        refine CW_cond _ rfl (fun hne => ?_) (fun heq => ?_)
        · have hr : (a == b) = false := by
            rw [beq_eq_false_iff_ne]; rintro rfl; simp at hne
          refine go_Words1 (k := ?_)
          exact bodyE_ret1 rfl (.bool false) rfl ⟨by rw [hr], hw.trans' hw1⟩
        · have hx : a[k]'hlt = b[k]'(by omega) := bv_inj (by simpa using heq)
          refine go_Words1 (k := ?_)
          refine ⟨⟨k + 1, by omega, rfl, rfl, rfl, ?_, hw.trans' hw1⟩, ?_⟩
          · intro j hj
            by_cases hjk : j = k
            · subst hjk
              rw [List.getElem?_eq_getElem hlt, List.getElem?_eq_getElem (by omega), hx]
            · exact hs j (by omega)
          · show a.length - ((k : Int) + 1).toNat < a.length - (k : Int).toNat
            omega
      · have hge : k = a.length := by
          have : ¬ k < a.length := by simpa using h
          omega
        have hr : (a == b) = true := by
          rw [beq_iff_eq]; exact same_all (hge ▸ hs) hlen
        refine go_Words1 (k := ?_)
        exact bodyE_ret1 rfl (.bool true) rfl ⟨by rw [hr], hw⟩
end Go.Proofs.Ytdpomchhbbopbaa

/- Walks: the reference 01's numbers. -/
namespace Go.Proofs.Ytdpomchhbbopbaa
open Go Go.RowKit
set_option linter.unusedVariables false

theorem go_Words3 {A B : Prop} (h : Held B → A := by
  intro hEnd
  repeat (first | refine OW_moveV (.int _ _) rfl ?_ | refine OW_moveV (.slice _ _ _) rfl ?_ | refine OW_moveV (.bool _) rfl ?_ | refine OW_moveV (.pointer _) rfl ?_ | refine OW_moveV (.string _) rfl ?_ | refine OW_moveV (.agg _) rfl ?_ | refine OW_moveV (.tuple _) rfl ?_ | refine OW_nil ?_ | refine thenE_normal ?_ | refine CW_seq ?_ | refine CW_region (by kernel_rfl) ?_ | refine OW_assignV (.int _ _) rfl ?_ | refine OW_assignV (.slice _ _ _) rfl ?_ | refine OW_assignV (.bool _) rfl ?_ | refine OW_assignV (.pointer _) rfl ?_ | refine OW_assignV (.string _) rfl ?_ | refine OW_assignV (.agg _) rfl ?_ | refine OW_assignV (.tuple _) rfl ?_ | refine OW_addI rfl rfl (by omega) ?_ | refine OW_subI rfl rfl (by omega) ?_ | refine OW_mulI rfl rfl (by omega) ?_ | refine OW_lss rfl rfl ?_ | refine OW_extract rfl rfl ?_ | refine OW_gtr rfl rfl ?_ | refine OW_leq rfl rfl ?_ | refine OW_geq rfl rfl ?_ | refine OW_eql rfl rfl ?_ | refine OW_neq rfl rfl ?_ | refine OW_not rfl ?_ | refine OW_pickT rfl _ rfl ?_ | refine OW_pickF rfl (.bool _) rfl ?_ | refine OW_pickB rfl rfl rfl ?_ | refine OW_move ?_ | refine OW_assign ?_ | refine OW_pass rfl ?_ | refine OW_take rfl ?_ | refine OW_lenS (by first | with_reducible exact und_bytes | with_reducible exact und_bytess) rfl ?_ | refine OW_convInt (by first | with_reducible exact und_u8 | with_reducible exact und_u64 | with_reducible exact und_int | with_reducible exact und_u32) (by first | with_reducible exact und_u8 | with_reducible exact und_u64 | with_reducible exact und_int | with_reducible exact und_u32) rfl ?_ | refine OW_add rfl rfl ?_ | refine OW_sub rfl rfl ?_ | refine OW_mul rfl rfl ?_ | refine OW_min2 rfl rfl ?_ | refine OW_max2 rfl rfl ?_ | refine OW_neg rfl ?_ | refine CW_block ?_ | refine CW_condT rfl ?_ | refine CW_condF rfl ?_ | refine CW_exit ?_ | refine CW_ret ?_ | refine CW_skip ?_ | refine LW_seq ?_ | refine LW_regC ?_ | refine LW_condC ?_ | refine LW_regF ?_ | refine LW_condF ?_ | refine FW_seq ?_ | refine FW_region (by kernel_rfl) ?_ | refine FW_block ?_ | refine FW_condT rfl ?_ | refine FW_condF rfl ?_ | refine FW_exit ?_ | refine FW_ret ?_ | refine FW_skip ?_ | refine LW_ret ?_ | refine LW_skip ?_ | refine thenE_exit ?_ | refine thenE_ret ?_ | refine inBlockE_normal ?_ | refine inBlockE_same ?_ | refine inBlockE_ret ?_ | refine inBlockE_ne (by rfl) ?_ | refine OW_eqlB (by with_reducible exact und_bool) rfl rfl ?_ | refine OW_neqB (by with_reducible exact und_bool) rfl rfl ?_ | refine OW_idxS (by with_reducible exact und_bytes) one_u8 rfl rfl _ rfl (by omega) ?_ | refine OW_idxS (by with_reducible exact und_bytess) one_bytes rfl rfl _ rfl (by omega) ?_ | refine OW_load1 (by first | with_reducible exact one_u8 | with_reducible exact one_bytes) rfl _ (by assumption) ?_)
  exact hEnd.out) (k : B) : A := h ⟨k⟩
/-- n places, noughts coming in. -/
def shrS (x : Nat) (n : Int) : Nat := x / 2 ^ (min n.toNat 32)
set_option maxHeartbeats 8000000 in
theorem refLoad_any (w : World) (A : Option Addr) (b : List UInt8) (c : Nat) (at_ n : Int) (nN : Nat) (hnn : n = (nN : Int)) (h8 : nN ≤ 8) (ha : Bs w A b) (hl : b.length ≤ 1000000) (hat : -9223372036854775808 ≤ at_ ∧ at_ ≤ 9223372036854775807) :
    Calls Try.prog 117 #[.slice A b.length c, .int .i64 at_, .int .i64 n] w (RetV w (.tuple #[.int .u64 (ldV b at_ nN), .bool (ldB b at_ nN)])) := by
  subst hnn
  have hno : ¬ (0 ≤ at_ ∧ at_.toNat + nN ≤ b.length) → ldV b at_ nN = 0 ∧ ldB b at_ nN = false := fun h => by simp [ldV, ldB, ldL, h]
  have hyes : (0 ≤ at_ ∧ at_.toNat + nN ≤ b.length) → ldV b at_ nN = loadL ((b.drop at_.toNat).take nN) ∧ ldB b at_ nN = true := fun h => by simp [ldV, ldB, ldL, h]
  refine calls_of_CW Try.func117 rfl (by simp [Try.ntmps117]) ?_
  rw [Try.ntmps117]
  refine go_Words3 (k := ?_)
  refine OW_split 12 _ rfl (fun h1 => ?_) (fun h1 => ?_)
  · have h1 : at_ < 0 := by simpa using h1
    obtain ⟨r1, r2⟩ := hno (by omega)
    refine go_Words3 (k := ?_)
    exact bodyE_ret2 rfl (.int .u64 0) (.bool false) rfl rfl ⟨by rw [r1, r2]; rfl, Ext.rfl' w⟩
  · have h1 : 0 ≤ at_ := by simp at h1; omega
    refine go_Words3 (k := ?_)
    refine OW_split 18 _ rfl (fun h2 => ?_) (fun h2 => ?_)
    · have h2 : (b.length : Int) < at_ := by simpa using h2
      obtain ⟨r1, r2⟩ := hno (by omega)
      refine go_Words3 (k := ?_)
      exact bodyE_ret2 rfl (.int .u64 0) (.bool false) rfl rfl ⟨by rw [r1, r2]; rfl, Ext.rfl' w⟩
    · have h2 : at_ ≤ (b.length : Int) := by simp at h2; omega
      refine go_Words3 (k := ?_)
      refine CW_cond _ rfl (fun h3 => ?_) (fun h3 => ?_)
      · have h3 : (b.length : Int) - at_ < nN := by simpa using h3
        obtain ⟨r1, r2⟩ := hno (by omega)
        refine go_Words3 (k := ?_)
        exact bodyE_ret2 rfl (.int .u64 0) (.bool false) rfl rfl ⟨by rw [r1, r2]; rfl, Ext.rfl' w⟩
      · have h3 : (nN : Int) ≤ b.length - at_ := by simp at h3; omega
        obtain ⟨r1, r2⟩ := hyes (by omega)
        obtain ⟨p, rfl⟩ := Int.eq_ofNat_of_zero_le h1
        simp only [Int.toNat_natCast] at *
        refine go_Words3 (k := ?_)
        refine CW_loop (fun e' w' => ∃ k : Nat, k ≤ nN ∧ e' 0 = .slice A b.length c ∧ e' 1 = .int .i64 p ∧ e' 2 = .int .i64 nN ∧ e' 8 = .int .u64 (loadL ((b.drop p).take k) : Nat) ∧ e' 9 = .int .i64 ((p : Int) + k) ∧ Ext w w') (fun e' _ => p + nN - (intOf (e' 9)).toNat) ?_ ?_
        · exact ⟨0, Nat.zero_le _, rfl, rfl, rfl, rfl, by simp; rfl, Ext.rfl' w⟩
        · rintro e' w' ⟨k, hk, e0, e1, e2, e8, e9, hw⟩
          rw [upd_self e0, upd_self e1, upd_self e2, upd_self e8, upd_self e9]
          have hlen : ((b.drop p).take k).length = k := by simp; omega
          have hlt64 : loadL ((b.drop p).take k) < 256 ^ k := by have := loadL_lt ((b.drop p).take k); rwa [hlen] at this
          refine go_Words3 (k := ?_)
          refine CW_cond _ rfl (fun h => ?_) (fun h => ?_)
          · have hlt : k < nN := by simp at h; omega
            have hp : p + k < b.length := by omega
            obtain ⟨ad, hA1, hcA⟩ := (ha.ext hw).at_ hp
            subst hA1
            have hpow : (256 : Nat) ^ k ≤ 256 ^ 7 := Nat.pow_le_pow_right (by decide) (by omega)
            have hsn : loadL ((b.drop p).take (k + 1)) = 256 * loadL ((b.drop p).take k) + (b[p + k]'hp).toNat := by
              rw [take_succ_get _ _ (by simp; omega), loadL_snoc]
              simp
            have hbl := (b[p + k]'hp).toNat_lt
            generalize loadL ((b.drop p).take k) = y at *
            have hy : y < 72057594037927936 := Nat.lt_of_lt_of_le hlt64 hpow
            refine go_Words3 (k := ?_)
            rw [show (256 : Int) * (y : Int) = ((256 * y : Nat) : Int) by omega, wrap_u64_lt (256 * y) (by omega), wrap_u64_lt (b[p + k]'hp).toNat (by omega),
              show ((256 * y : Nat) : Int) + ((b[p + k]'hp).toNat : Int) = ((256 * y + (b[p + k]'hp).toNat : Nat) : Int) by omega, wrap_u64_lt _ (by omega), ← hsn]
            refine ⟨⟨k + 1, by omega, rfl, rfl, rfl, rfl, ?_, hw⟩, ?_⟩
            · show Value.int .i64 ((p : Int) + k + 1) = .int .i64 ((p : Int) + ((k + 1 : Nat) : Int))
              congr 1
            · show p + nN - ((p : Int) + k + 1).toNat < p + nN - ((p : Int) + k).toNat
              omega
          · have hge : k = nN := by
              simp at h
              omega
            subst hge
            refine go_Words3 (k := ?_)
            exact bodyE_ret2 rfl (.int .u64 (loadL ((b.drop p).take k) : Nat)) (.bool true) rfl rfl ⟨by rw [r1, r2], hw⟩
end Go.Proofs.Ytdpomchhbbopbaa

/- Walks: package words. -/
namespace Go.Proofs.Ytdpomchhbbopbaa
open Go Go.RowKit
set_option linter.unusedVariables false

theorem go_Words4 {A B : Prop} (h : Held B → A := by
  intro hEnd
  repeat (first | refine OW_moveV (.int _ _) rfl ?_ | refine OW_moveV (.slice _ _ _) rfl ?_ | refine OW_moveV (.bool _) rfl ?_ | refine OW_moveV (.pointer _) rfl ?_ | refine OW_moveV (.string _) rfl ?_ | refine OW_moveV (.agg _) rfl ?_ | refine OW_moveV (.tuple _) rfl ?_ | refine OW_nil ?_ | refine thenE_normal ?_ | refine CW_seq ?_ | refine CW_region (by kernel_rfl) ?_ | refine OW_assignV (.int _ _) rfl ?_ | refine OW_assignV (.slice _ _ _) rfl ?_ | refine OW_assignV (.bool _) rfl ?_ | refine OW_assignV (.pointer _) rfl ?_ | refine OW_assignV (.string _) rfl ?_ | refine OW_assignV (.agg _) rfl ?_ | refine OW_assignV (.tuple _) rfl ?_ | refine OW_addI rfl rfl (by omega) ?_ | refine OW_subI rfl rfl (by omega) ?_ | refine OW_mulI rfl rfl (by omega) ?_ | refine OW_lss rfl rfl ?_ | refine OW_extract rfl rfl ?_ | refine OW_gtr rfl rfl ?_ | refine OW_leq rfl rfl ?_ | refine OW_geq rfl rfl ?_ | refine OW_eql rfl rfl ?_ | refine OW_neq rfl rfl ?_ | refine OW_not rfl ?_ | refine OW_pickT rfl _ rfl ?_ | refine OW_pickF rfl (.bool _) rfl ?_ | refine OW_pickB rfl rfl rfl ?_ | refine OW_move ?_ | refine OW_assign ?_ | refine OW_pass rfl ?_ | refine OW_take rfl ?_ | refine OW_lenS (by first | with_reducible exact und_bytes | with_reducible exact und_bytess) rfl ?_ | refine OW_convInt (by first | with_reducible exact und_u8 | with_reducible exact und_u64 | with_reducible exact und_int | with_reducible exact und_u32) (by first | with_reducible exact und_u8 | with_reducible exact und_u64 | with_reducible exact und_int | with_reducible exact und_u32) rfl ?_ | refine OW_add rfl rfl ?_ | refine OW_sub rfl rfl ?_ | refine OW_mul rfl rfl ?_ | refine OW_min2 rfl rfl ?_ | refine OW_max2 rfl rfl ?_ | refine OW_neg rfl ?_ | refine CW_block ?_ | refine CW_condT rfl ?_ | refine CW_condF rfl ?_ | refine CW_exit ?_ | refine CW_ret ?_ | refine CW_skip ?_ | refine LW_seq ?_ | refine LW_regC ?_ | refine LW_condC ?_ | refine LW_regF ?_ | refine LW_condF ?_ | refine FW_seq ?_ | refine FW_region (by kernel_rfl) ?_ | refine FW_block ?_ | refine FW_condT rfl ?_ | refine FW_condF rfl ?_ | refine FW_exit ?_ | refine FW_ret ?_ | refine FW_skip ?_ | refine LW_ret ?_ | refine LW_skip ?_ | refine thenE_exit ?_ | refine thenE_ret ?_ | refine inBlockE_normal ?_ | refine inBlockE_same ?_ | refine inBlockE_ret ?_ | refine inBlockE_ne (by rfl) ?_ | refine OW_eqlB (by with_reducible exact und_bool) rfl rfl ?_ | refine OW_neqB (by with_reducible exact und_bool) rfl rfl ?_ | refine OW_idxS (by with_reducible exact und_bytes) one_u8 rfl rfl _ rfl (by omega) ?_ | refine OW_idxS (by with_reducible exact und_bytess) one_bytes rfl rfl _ rfl (by omega) ?_ | refine OW_load1 (by first | with_reducible exact one_u8 | with_reducible exact one_bytes) rfl _ (by assumption) ?_)
  exact hEnd.out) (k : B) : A := h ⟨k⟩
theorem putL_get {x n i : Nat} (hi : i < n) : (putL x n)[i]? = some (UInt8.ofNat (x / 256 ^ (n - 1 - i))) := by
  unfold putL
  rw [List.getElem?_map, List.getElem?_range hi]
  rfl
set_option maxHeartbeats 8000000 in
theorem put_any (w : World) (x : Nat) (n : Int) (nN : Nat) (hnn : n = (nN : Int)) (h8 : nN ≤ 8) (hx : x < 18446744073709551616) :
    Calls Try.prog 120 #[.int .u64 x, .int .i64 n] w (RetBs 5 w (putL x nN)) := by
  subst hnn
  refine calls_of_CW Try.func120 rfl (by simp [Try.ntmps120]) ?_
  rw [Try.ntmps120]
  refine go_Words4 (k := ?_)
  refine OW_make (n := nN) und_bytes info_u8 rfl rfl rfl rfl rfl (by omega) (by unfold maxLen; omega) ?_
  intro w1 g hb1 hg1 hx1
  refine go_Words4 (k := ?_)
  refine CW_loop (fun e' w' => ∃ (k : Nat) (cs : Array Value), k ≤ nN ∧ e' 0 = .int .u64 x ∧ e' 1 = .int .i64 nN ∧ e' 5 = .slice (some ⟨g, 0, none⟩) nN nN ∧ e' 9 = .int .i64 nN ∧ e' 10 = .int .i64 k ∧
      Blk w' g 5 cs ∧ cs.size = nN ∧ (∀ j, nN - k ≤ j → j < nN → cs[j]? = ((putL x nN).map bv)[j]?) ∧ Ext w w') (fun e' _ => nN - (intOf (e' 10)).toNat) ?_ ?_
  · exact ⟨0, _, Nat.zero_le _, rfl, rfl, rfl, rfl, rfl, hb1, by simp, fun j h1 h2 => by omega, hx1⟩
  · rintro e' w' ⟨k, cs, hk, e0, e1, e5, e9, e10, hb, hsz, hcs, hw⟩
    rw [upd_self e0, upd_self e1, upd_self e5, upd_self e9, upd_self e10]
    refine go_Words4 (k := ?_)
    refine CW_cond _ rfl (fun h => ?_) (fun h => ?_)
    · have hlt : k < nN := by simpa using h
      have hpow : ∀ j, j ≤ 8 → (2 : Int) ^ (8 * j) = ((256 ^ j : Nat) : Int) := fun j hj => by
        rw [Int.natCast_pow, show (2 : Int) ^ (8 * j) = (2 ^ 8) ^ j from Int.pow_mul]; rfl
      refine go_Words4 (k := ?_)
      refine OW_shr rfl rfl (by omega) ((x / 256 ^ k : Nat) : Int) ?_ ?_
      · rw [show min ((8 : Int) * (k : Int)).toNat IntKind.u64.bits = 8 * k by simp only [IntKind.bits]; omega, hpow k (by omega), fdiv_nat]
      refine go_Words4 (k := ?_)
      refine go_Words4 (k := ?_)
      rw [wrap_u8]
      refine OW_idxS und_bytes one_u8 rfl rfl (nN - 1 - k) (by omega) (by omega) ?_
      rw [add0]
      refine OW_storeB one_u8 rfl (.int _ _) rfl rfl hb (by omega) ?_
      intro w2 hb2 ho2
      refine go_Words4 (k := ?_)
      refine ⟨⟨k + 1, _, by omega, rfl, rfl, rfl, rfl, rfl, hb2, by simp [hsz], fun j h1 h2 => ?_, below_only hw ho2 (by omega) hw.size⟩, ?_⟩
      · rw [Array.getElem?_setIfInBounds]
        split
        · rename_i hj
          subst hj
          rw [if_pos (by omega), List.getElem?_map, putL_get h2, Option.map_some, show nN - 1 - (nN - 1 - k) = k by omega]
          simp [bv]
        · exact hcs j (by omega) h2
      · show nN - ((k : Int) + 1).toNat < nN - (k : Int).toNat
        omega
    · have hge : k = nN := by simp at h; omega
      subst hge
      have hl := putL_length x k
      have hall : cs.toList = (putL x k).map bv := by
        apply List.ext_getElem?
        intro j
        by_cases hj : j < k
        · rw [← hcs j (by omega) hj]; simp
        · rw [List.getElem?_eq_none (by simp; omega), List.getElem?_eq_none (by simp; omega)]
      refine go_Words4 (k := ?_)
      refine bodyE_ret1 rfl (.slice (some ⟨g, 0, none⟩) k k) rfl ⟨some ⟨g, 0, none⟩, k, by rw [hl], ?_, hw⟩
      have := hb.own hg1 (by rw [hsz]; unfold maxLen; omega)
      rw [hsz, hall] at this
      rw [hl]
      exact this

set_option maxHeartbeats 8000000 in
theorem put32_any (w : World) (x : Nat) (hx : x < 4294967296) : Calls Try.prog 91 #[.int .u32 x] w (RetBs 5 w (putL x 4)) := by
  refine calls_of_CW Try.func91 rfl (by simp [Try.ntmps91]) ?_
  rw [Try.ntmps91]
  refine go_Words4 (k := ?_)
  rw [wrap_u64_lt _ (by omega)]
  refine OW_callBs Try.func120 (by kernel_rfl) rfl (put_any w x 4 4 rfl (by decide) (by omega)) rfl ?_
  intro w1 A1 c1 h1
  refine go_Words4 (k := ?_)
  exact bodyE_ret1 rfl (.slice A1 (putL x 4).length c1) rfl ⟨A1, c1, rfl, h1⟩
set_option maxHeartbeats 8000000 in
theorem put64_any (w : World) (x : Nat) (hx : x < 18446744073709551616) : Calls Try.prog 90 #[.int .u64 x] w (RetBs 5 w (putL x 8)) := by
  refine calls_of_CW Try.func90 rfl (by simp [Try.ntmps90]) ?_
  rw [Try.ntmps90]
  refine go_Words4 (k := ?_)
  refine OW_callBs Try.func120 (by kernel_rfl) rfl (put_any w x 8 8 rfl (by decide) hx) rfl ?_
  intro w1 A1 c1 h1
  refine go_Words4 (k := ?_)
  exact bodyE_ret1 rfl (.slice A1 (putL x 8).length c1) rfl ⟨A1, c1, rfl, h1⟩
end Go.Proofs.Ytdpomchhbbopbaa
