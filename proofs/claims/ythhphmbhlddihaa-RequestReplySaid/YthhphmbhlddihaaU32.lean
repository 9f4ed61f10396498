/- Numbers of 32 bits; places in blocks; slices of arrays; copy; an array's element. No program in sight. -/
import Derived.Test.YthhphmbhlddihaaKd
import Derived.Test.YthhphmbhlddihaaShaP
import Derived.Laws.CopyRow
import Derived.Laws.Slices
namespace Go.Proofs.Ythhphmbhlddihaa
open Go Go.RowKit
set_option linter.unusedVariables false
section
variable {P : Program} {ops : Array Oper} {Q : Exit → (Nat → Value) → World → Prop} {rest : List Oper} {e : Nat → Value} {w : World} {d : Tmp} {ty : TypeId} {pos : String} {aft : Array Edge}
section
variable {x y : Operand} {t t' : TypeId} {a b : UInt32}
theorem OW_addW (hx : ev e x = uv a) (hy : ev e y = uv b) (h : OW P ops Q rest (upd e d (uv (a + b))) w) : OW P ops Q (⟨some d, .binOp .add t x y t', ty, pos, aft, none⟩ :: rest) e w :=
  OW_add hx hy (by rw [uv_add]; exact h)
theorem OW_andW (hx : ev e x = uv a) (hy : ev e y = uv b) (h : OW P ops Q rest (upd e d (uv (a &&& b))) w) : OW P ops Q (⟨some d, .binOp .and t x y t', ty, pos, aft, none⟩ :: rest) e w :=
  OW_and hx hy _ (uv_and a b) h
theorem OW_orW (hx : ev e x = uv a) (hy : ev e y = uv b) (h : OW P ops Q rest (upd e d (uv (a ||| b))) w) : OW P ops Q (⟨some d, .binOp .or t x y t', ty, pos, aft, none⟩ :: rest) e w :=
  OW_or hx hy _ (uv_or a b) h
theorem OW_xorW (hx : ev e x = uv a) (hy : ev e y = uv b) (h : OW P ops Q rest (upd e d (uv (a ^^^ b))) w) : OW P ops Q (⟨some d, .binOp .xor t x y t', ty, pos, aft, none⟩ :: rest) e w :=
  OW_xor hx hy _ (uv_xor a b) h
theorem OW_notW (hx : ev e x = uv a) (h : OW P ops Q rest (upd e d (uv (~~~ a))) w) : OW P ops Q (⟨some d, .unOp .xor t x, ty, pos, aft, none⟩ :: rest) e w := by
  refine OW_val (.int .u32 (bitsK .xor .u32 4294967295 (a.toNat : Int))) rfl ?_ (by rw [uv_not]; exact h)
  simp only [execOp, hx]
  rfl
theorem OW_shrW {ky : IntKind} {b : Int} (k : Nat) (hx : ev e x = uv a) (hy : ev e y = .int ky b) (hb : b = (k : Int)) (hk : k ≤ 32) (h : OW P ops Q rest (upd e d (uv (shU a k))) w) : OW P ops Q (⟨some d, .binOp .shr t x y t', ty, pos, aft, none⟩ :: rest) e w :=
  OW_shr hx hy (by omega) _ (uv_shr a b k hb hk) h
theorem OW_shlW {ky : IntKind} {b : Int} (k : Nat) (hx : ev e x = uv a) (hy : ev e y = .int ky b) (hb : b = (k : Int)) (hk : k ≤ 32) (h : OW P ops Q rest (upd e d (uv (slU a k))) w) : OW P ops Q (⟨some d, .binOp .shl t x y t', ty, pos, aft, none⟩ :: rest) e w :=
  OW_shl hx hy (by omega) _ (uv_shl a b k hb hk) h
theorem OW_shlV {ky : IntKind} (k : Nat) (hx : ev e x = uv a) (hy : ev e y = .int ky (32 - (k : Int))) (hk : k ≤ 32) (h : OW P ops Q rest (upd e d (uv (slU a (32 - k)))) w) : OW P ops Q (⟨some d, .binOp .shl t x y t', ty, pos, aft, none⟩ :: rest) e w :=
  OW_shlW (32 - k) hx hy (by omega) (by omega) h
end
/-- A load it is. -/
theorem OW_isLoad {x : Operand} {t : TypeId} (h : OW P ops Q (⟨some d, .load t x, ty, pos, aft, none⟩ :: rest) e w) : OW P ops Q (⟨some d, .load t x, ty, pos, aft, none⟩ :: rest) e w := h
/-- Places in a block, by their number. -/
theorem OW_idxAB {x y : Operand} {t el : TypeId} {g n : Nat} {k : IntKind} {j : Int} (ht : P.underlying t = some (.array n el)) (hel : OneT P el) (hx : ev e x = .pointer (some ⟨g, 0, none⟩)) (hy : ev e y = .int k j) (jN : Nat) (hj : j = (jN : Int)) (hn : jN < n)
    (h : OW P ops Q rest (upd e d (.pointer (some ⟨g, jN, none⟩))) w) : OW P ops Q (⟨some d, .indexAddr t x y, ty, pos, aft, none⟩ :: rest) e w :=
  OW_idxA ht hel hx hy jN hj hn (by rw [addr0]; exact h)
theorem OW_idxSB {x y : Operand} {t el : TypeId} {g n c : Nat} {k : IntKind} {j : Int} (ht : P.underlying t = some (.slice el)) (hel : OneT P el) (hx : ev e x = .slice (some ⟨g, 0, none⟩) n c) (hy : ev e y = .int k j) (jN : Nat) (hj : j = (jN : Int)) (hn : jN < n)
    (h : OW P ops Q rest (upd e d (.pointer (some ⟨g, jN, none⟩))) w) : OW P ops Q (⟨some d, .indexAddr t x y, ty, pos, aft, none⟩ :: rest) e w :=
  OW_idxS ht hel hx hy jN hj hn (by rw [addr0]; exact h)
theorem OW_loadBk {x : Operand} {t T : TypeId} {g i : Nat} {cs : Array Value} (ht : OneT P t) (hx : ev e x = .pointer (some ⟨g, i, none⟩)) (hb : Blk w g T cs) (v : Value) (hv : cs[i]? = some v) (h : OW P ops Q rest (upd e d v) w) : OW P ops Q (⟨some d, .load t x, ty, pos, aft, none⟩ :: rest) e w :=
  OW_load1 ht hx v (by rw [hb.cell]; exact hv) h
theorem OW_loadAB {x : Operand} {t T : TypeId} {n g : Nat} {zs : List Value} (ht : AggT P t n zs) (hx : ev e x = .pointer (some ⟨g, 0, none⟩)) (cs : List Value) (hb : Blk w g T cs.toArray) (hl : cs.length = n)
    (h : OW P ops Q rest (upd e d (.agg cs.toArray)) w) : OW P ops Q (⟨some d, .load t x, ty, pos, aft, none⟩ :: rest) e w := OW_loadX ht hx cs hl hb.atL h
/-- A whole array that stands in a block, anywhere. -/
theorem OW_loadAt {x : Operand} {t T : TypeId} {n g o : Nat} {zs : List Value} {all : Array Value} (ht : AggT P t n zs) (hx : ev e x = .pointer (some ⟨g, o, none⟩)) (hb : Blk w g T all) (cs : List Value) (hl : cs.length = n) (hc : (all.toList.drop o).take n = cs)
    (h : OW P ops Q rest (upd e d (.agg cs.toArray)) w) : OW P ops Q (⟨some d, .load t x, ty, pos, aft, none⟩ :: rest) e w :=
  OW_loadX ht hx cs hl (fun j u hu => by
    rw [addr_add_off, hb.cell]
    rw [← hc, List.getElem?_take] at hu
    split at hu
    · rw [List.getElem?_drop] at hu; simpa using hu
    · cases hu) h
theorem OW_storeAt {x y : Operand} {t T : TypeId} {n g o : Nat} {zs : List Value} (ht : AggT P t n zs) (hx : ev e x = .pointer (some ⟨g, o, none⟩)) (cs : List Value) (hy : ev e y = .agg cs.toArray) (hl : cs.length = n) {old : Array Value} (hb : Blk w g T old) (ho : o + n ≤ old.size) (h1 : ∀ v ∈ cs, v.oneCell' = true)
    (h : ∀ w', Blk w' g T (old.toList.take o ++ cs ++ old.toList.drop (o + n)).toArray → w.grownBy w' (some g) → OW P ops Q rest e w') : OW P ops Q (⟨none, .store t x y, ty, pos, aft, none⟩ :: rest) e w := by
  obtain ⟨td, hu, hd⟩ := ht.row
  refine OW_unit (w.setRow g (old.toList.take o ++ cs ++ old.toList.drop (o + n)).toArray) rfl rfl ?_ (h _ ?_ ?_)
  · have hst := run_storeCells_at P g o T cs 0 old w hb (by simpa [hl] using ho) h1
    have hagg : (isAgg t).run P w = .ok true w := by
      unfold isAgg
      rw [Sem.run_bind, run_underlying hu w]
      cases td <;> simp_all
    have hsv : (storeVar t ⟨g, o, none⟩ (.agg cs.toArray)).run P w = .ok () (w.setRow g (old.toList.take o ++ cs ++ old.toList.drop (o + n)).toArray) := by
      simp only [Nat.add_zero, hl] at hst
      have hi := ht.size
      cases hq : P.info? t with
      | none => simp [hq] at hi
      | some i =>
        have hs : i.size = n := by simpa [hq] using hi
        simp [storeVar, Sem.run_bind, hagg, sizeOf, typeInfo, hq, hs, hl, hst, Value.cells]
    simp only [execOp, hx, hy, Instr.storeAt, Instr.sureAddr, Sem.run_bind, Sem.run_pure, Result.andThen_ok, hsv]
  · exact setRow_heap w g old _ T (0, 0) hb
  · exact ⟨rfl, rfl, rfl, by simp, fun k hk hn => setRow_other w g k _ (fun hh => hn (by rw [hh]))⟩
/-- A slice of an array. -/
theorem OW_sliceA {x : Operand} {t el : TypeId} {g m : Nat} {lo hi : Option Operand} {lv hv : Int} (ht : P.underlying t = some (.array m el)) (hel : OneT P el) (hx : ev e x = .pointer (some ⟨g, 0, none⟩))
    (hlo : bnd e lo 0 lv) (hhi : bnd e hi m hv) (lN hN : Nat) (h1 : lv = (lN : Int)) (h2 : hv = (hN : Int)) (h3 : lN ≤ hN) (h4 : hN ≤ m) (h5 : lN < m)
    (h : OW P ops Q rest (upd e d (.slice (some ⟨g, lN, none⟩) (hN - lN) (m - lN))) w) : OW P ops Q (⟨some d, .slice t x lo hi none, ty, pos, aft, none⟩ :: rest) e w := by
  refine OW_val _ rfl ?_ h
  subst h1; subst h2
  obtain ⟨i, z, hi', hs, _, _⟩ := hel.info
  have hel' : P.elem t = el := by simp [Program.elem, ht]
  have hal : P.arrayLen t = m := by simp [Program.arrayLen, ht]
  have ht' : P.underlying t = some (.array (P.arrayLen t) (P.elem t)) := by rw [hel', hal]; exact ht
  have hsz : (sizeOf (P.elem t)).run P w = .ok 1 w := by rw [hel']; simp [sizeOf, typeInfo, hi', hs]
  have hne : ¬ m = lN := by omega
  have e0 : (⟨g, 0, none⟩ : Addr).add (lN * 1) = ⟨g, lN, none⟩ := by rw [Nat.mul_one, addr0]
  have e1 : (⟨g, 0, none⟩ : Addr).add 0 = ⟨g, 0, none⟩ := addr0 g 0
  have key : (Instr.sliceAt t (.pointer (some ⟨g, 0, none⟩)) (lo.map (ev e)) (hi.map (ev e)) none).run P w = .ok (.slice (some ⟨g, lN, none⟩) (hN - lN) (m - lN)) w := by
    cases lo with
    | none =>
      simp only [bnd] at hlo
      have hl0 : lN = 0 := by omega
      subst hl0
      cases hi with
      | none =>
        simp only [bnd] at hhi
        have : hN = m := by omega
        subst this
        simp [run_sliceAt_array_all (P := P) w t ⟨g, 0, none⟩ ht', hsz, slicedAt, hal, hne, e1]
      | some hi =>
        obtain ⟨k, hhi⟩ := hhi
        simp [hhi, run_sliceAt_array_h (P := P) w t ⟨g, 0, none⟩ ht' k hN (by omega) (by rw [hal]; omega), hsz, slicedAt, hal, hne, e1]
    | some lo =>
      obtain ⟨k, hlo⟩ := hlo
      cases hi with
      | none =>
        simp only [bnd] at hhi
        have : hN = m := by omega
        subst this
        simp [hlo, run_sliceAt_array_l (P := P) w t ⟨g, 0, none⟩ ht' k lN (by omega) (by rw [hal]; omega), hsz, slicedAt, hal, hne, e0]
        simpa using e0
      | some hi =>
        obtain ⟨k2, hhi⟩ := hhi
        simp [hlo, hhi, run_sliceAt_array_lh (P := P) w t ⟨g, 0, none⟩ ht' k k2 lN hN (by omega) (by omega) (by rw [hal]; omega), hsz, slicedAt, hal, hne]
        simpa using e0
  simp only [execOp, hx, Option.map_none, Sem.run_bind, key]
  rfl
/-- Copied into a block. -/
theorem OW_copyR {x y : Operand} {t t2 el T : TypeId} {g o dLen dCap sLen sCap : Nat} {a : Addr} {cur : Array Value} (ht : P.underlying t = some (.slice el)) (hel : OneT P el) (hx : ev e x = .slice (some ⟨g, o, none⟩) dLen dCap) (hy : ev e y = .slice (some a) sLen sCap)
    (hb : Blk w g T cur) (cs : List Value) (hs : At w a cs) (hn : cs.length = Nat.min sLen dLen) (hf : o + cs.length ≤ cur.size) (h1 : ∀ v ∈ cs, v.oneCell' = true)
    (h : ∀ w', Blk w' g T (cur.toList.take o ++ cs ++ cur.toList.drop (o + cs.length)).toArray → w.grownBy w' (some g) → OW P ops Q rest (upd e d (.int .i64 cs.length)) w') :
    OW P ops Q (⟨some d, .call { callee := .builtin .copy, args := #[x, y], argTypes := #[t, t2] }, ty, pos, aft, none⟩ :: rest) e w := by
  obtain ⟨i, z, hi', hsz, _, _⟩ := hel.info
  refine OW_valw (.int .i64 cs.length) (w.setRow g (cur.toList.take o ++ cs ++ cur.toList.drop (o + cs.length)).toArray) rfl ?_ (h _ (setRow_heap w g cur _ T (0, 0) hb) ⟨rfl, rfl, rfl, by simp, fun k hk hn => setRow_other w g k _ (fun hh => hn (by rw [hh]))⟩)
  have := run_copy_row P w t t2 ty el g o dLen dCap a sLen sCap cur T cs ht (by simp [hi', hsz]) hb hn hs hf h1
  simp [execOp, resolve, invoke, builtin, hx, hy, this, goInt]
/-- An array that is written out whole. -/
theorem OW_buildA {t el : TypeId} {n : Nat} {zs : List Value} {parts : Array (Nat × Operand)} (hA : AggT P t n zs) (ht : P.underlying t = some (.array n el)) (hel : OneT P el) (hzl : zs.length = n) (vs : List Value) (hp : parts.toList.map (fun x => (x.1, ev e x.2)) = idxParts vs 0) (hn : vs.length = n) (h1 : ∀ v ∈ vs, v.oneCell' = true)
    (h : OW P ops Q rest (upd e d (.agg vs.toArray)) w) : OW P ops Q (⟨some d, .build t parts, ty, pos, aft, none⟩ :: rest) e w := by
  refine OW_val _ rfl ?_ h
  obtain ⟨i, z, hi', hsz, _, _⟩ := hel.info
  have hpp : (parts.map fun x => (x.1, ev e x.2)).toList = idxParts vs 0 := by rw [Array.toList_map]; exact hp
  have key : Instr.fill (fun i => some (i * 1, 1)) zs.toArray (parts.map fun x => (x.1, ev e x.2)).toList = some vs.toArray := by
    rw [hpp, fill_parts vs 0 zs.toArray h1 (by simp [hzl, hn])]
    simp
  have hrun : (Instr.build t (parts.map fun x => (x.1, ev e x.2))).run P w = .ok (.agg vs.toArray) w := by
    simp only [Instr.build, Sem.run_bind, hA.zero w, Result.andThen_ok, run_underlying ht, sizeOf, typeInfo_run hi', hsz, Sem.run_pure, Value.cells, key]
  simp only [execOp, Sem.run_bind]
  rw [show (parts.map fun (x : Nat × Operand) => match x with | (i, x) => (i, ev e x)) = parts.map fun x => (x.1, ev e x.2) from rfl, hrun]
  rfl
/-- An element of an array's value. -/
theorem OW_indexA {x y : Operand} {t el : TypeId} {n : Nat} {cs : Array Value} {k : IntKind} {j : Int} (ht : P.underlying t = some (.array n el)) (hel : OneT P el) (hx : ev e x = .agg cs) (hy : ev e y = .int k j) (jN : Nat) (hj : j = (jN : Int)) (hn : jN < n) (v : Value) (hv : cs[jN]? = some v)
    (h : OW P ops Q rest (upd e d v) w) : OW P ops Q (⟨some d, .index t x y, ty, pos, aft, none⟩ :: rest) e w := by
  refine OW_val _ rfl ?_ h
  obtain ⟨i, z, hi', hsz, _, _⟩ := hel.info
  subst hj
  have hagg := hel.agg w
  simp [execOp, hx, hy, Instr.index, asIntOf, run_underlying ht, sizeOf, typeInfo, hi', hsz, hn, part, hagg, hv]
end
end Go.Proofs.Ythhphmbhlddihaa
