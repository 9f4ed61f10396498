/- Data that comes in: what its cells read as, type by type; loads of whole values at any place. No program in sight. -/
import Derived.Test.YthhphmbhlddihaaAgg
import Derived.Test.YthhphmbhlddihaaFrame
import Derived.Deep.Slices
import Derived.SizedLaws
namespace Go.Proofs.Ythhphmbhlddihaa
open Go Go.RowKit Go.ChangeShapes Go.WideShapes
set_option linter.unusedVariables false
theorem addr_add_off (g o j : Nat) : (⟨g, o, none⟩ : Addr).add j = ⟨g, o + j, none⟩ := by unfold Addr.add; split <;> simp_all
/-- Cells that stand one behind the other. -/
def At (w : World) (ad : Addr) (cs : List Value) : Prop := ∀ (j : Nat) (u : Value), cs[j]? = some u → w.cell? (ad.add j) = some u
theorem At.ext {w w' : World} {ad : Addr} {cs : List Value} (h : At w ad cs) (hx : Ext w w') : At w' ad cs := fun j u hu => hx.cell' (h j u hu)
theorem At.keeps {w w' : World} {ad : Addr} {cs : List Value} {S : Nat → Prop} (h : At w ad cs) (hk : Keeps w w' S) (hn : ¬ S ad.block) : At w' ad cs := fun j u hu => hk.cell (h j u hu) (by rw [addr_add_block]; exact hn)
theorem At.get {w : World} {ad : Addr} {cs : List Value} (h : At w ad cs) {j : Nat} (hj : j < cs.length) : w.cell? (ad.add j) = some cs[j] := h j _ (List.getElem?_eq_getElem hj)
theorem Blk.atL {w : World} {g : Nat} {T : TypeId} {cs : List Value} (h : Blk w g T cs.toArray) : At w ⟨g, 0, none⟩ cs := fun j v hv => by
  rw [addr0, h.cell]; simpa using hv
theorem At.part {w : World} {ad : Addr} {cs : List Value} (h : At w ad cs) (o n : Nat) : At w (ad.add o) ((cs.drop o).take n) := fun j v hv => by
  rw [List.getElem?_take] at hv
  split at hv
  · rw [List.getElem?_drop] at hv
    rw [addr_add_add]
    exact h _ _ hv
  · cases hv
theorem At.rd {w : World} {ad : Addr} {cs : List Value} (h : At w ad cs) : Rd w (some ad) cs := fun j u hu => ⟨ad, rfl, h j u hu⟩
theorem Rd.atL {w : World} {ad : Addr} {cs : List Value} (h : Rd w (some ad) cs) : At w ad cs := fun j u hu => by
  obtain ⟨ad', ha, hc⟩ := h j u hu
  cases ha
  exact hc
theorem At.of_own {w : World} {base g n c : Nat} {T : TypeId} {xs : List Value} (h : w.ownsRow base T 1 (.slice (some ⟨g, 0, none⟩) n c) n xs) : At w ⟨g, 0, none⟩ xs := (own_rd h).atL
section
variable {P : Program} {ops : Array Oper} {Q : Exit → (Nat → Value) → World → Prop} {rest : List Oper} {e : Nat → Value} {w : World} {d : Tmp} {ty : TypeId} {pos : String} {aft : Array Edge}
theorem run_loadX {t : TypeId} {n : Nat} {zs : List Value} (ht : AggT P t n zs) {ad : Addr} (cs : List Value) (hl : cs.length = n) (hc : At w ad cs) : (loadVar t ad).run P w = .ok (.agg cs.toArray) w := by
  obtain ⟨td, hu, hd⟩ := ht.row
  have hld : (loadCells ad cs.length).run P w = .ok cs.toArray w := run_loadCells_list (P := P) w ad cs hc
  have hi := ht.size
  cases hq : P.info? t with
  | none => simp [hq] at hi
  | some i =>
    have hs : i.size = cs.length := by simpa [hq, hl] using hi
    have hagg : (isAgg t).run P w = .ok true w := by
      unfold isAgg
      rw [Sem.run_bind, run_underlying hu w]
      cases td <;> simp_all
    simp [loadVar, Sem.run_bind, hagg, sizeOf, typeInfo, hq, hs, hld]
/-- A whole value at any place. -/
theorem OW_loadX {x : Operand} {t : TypeId} {n : Nat} {ad : Addr} {zs : List Value} (ht : AggT P t n zs) (hx : ev e x = .pointer (some ad)) (cs : List Value) (hl : cs.length = n) (hc : At w ad cs)
    (h : OW P ops Q rest (upd e d (.agg cs.toArray)) w) : OW P ops Q (⟨some d, .load t x, ty, pos, aft, none⟩ :: rest) e w := by
  refine OW_val _ rfl ?_ h
  have hr : (Instr.loadAt t (.pointer (some ad))).run P w = .ok (.agg cs.toArray) w := by
    simp only [Instr.loadAt, Instr.sureAddr, Sem.run_bind, Sem.run_pure, Result.andThen_ok, run_loadX ht cs hl hc]
  simp only [execOp, hx, Sem.run_bind, hr]; rfl
/-- A field's place, anywhere. -/
structure FldO (P : Program) (t : TypeId) (f o : Nat) : Prop where
  run : ∀ w a, (Instr.fieldAt t (.pointer (some a)) f).run P w = .ok (.pointer (some (Addr.add a o))) w
theorem OW_fieldO {x : Operand} {t : TypeId} {ad : Addr} {f o : Nat} (hr : FldO P t f o) (hx : ev e x = .pointer (some ad))
    (h : OW P ops Q rest (upd e d (.pointer (some (ad.add o)))) w) : OW P ops Q (⟨some d, .fieldAddr t x f, ty, pos, aft, none⟩ :: rest) e w :=
  OW_val _ rfl (by simp only [execOp, hx, Sem.run_bind, hr.run w ad]; rfl) h
/-- Elements of many cells. -/
structure ElT (P : Program) (t : TypeId) (n : Nat) : Prop where
  size : (P.info? t).map (·.size) = some n
theorem OW_idxN {x y : Operand} {t el : TypeId} {ad : Addr} {n c m : Nat} {k : IntKind} {j : Int} (ht : P.underlying t = some (.slice el)) (hel : ElT P el m) (hx : ev e x = .slice (some ad) n c) (hy : ev e y = .int k j) (jN : Nat) (hj : j = (jN : Int)) (hn : jN < n)
    (h : OW P ops Q rest (upd e d (.pointer (some (ad.add (jN * m))))) w) : OW P ops Q (⟨some d, .indexAddr t x y, ty, pos, aft, none⟩ :: rest) e w := by
  refine OW_val _ rfl ?_ h
  have hs := hel.size
  subst hj
  cases hi : P.info? el with
  | none => simp [hi] at hs
  | some i =>
    have hs : i.size = m := by simpa [hi] using hs
    simp [execOp, hx, hy, Instr.indexAt, asIntOf, run_underlying ht, sizeOf, typeInfo, hi, hs, hn]
end

theorem choose_list {α : Type} {p : Nat → α → Prop} : ∀ (n : Nat), (∀ i, i < n → ∃ b, p i b) → ∃ l : List α, l.length = n ∧ ∀ i (hi : i < l.length), p i l[i]
  | 0, _ => ⟨[], rfl, fun i hi => absurd hi (Nat.not_lt_zero _)⟩
  | n + 1, h => by
    obtain ⟨l, hl, hp⟩ := choose_list n (fun i hi => h i (by omega))
    obtain ⟨b, hb⟩ := h n (by omega)
    refine ⟨l ++ [b], by simp [hl], fun i hi => ?_⟩
    by_cases hn : i < l.length
    · rw [List.getElem_append_left hn]; exact hp i hn
    · have : i = n := by simp at hi; omega
      subst this
      rw [List.getElem_append_right (by omega)]
      simpa [hl] using hb
/-- Nothing that is read takes more than there is. -/
def WOk {H : Type} (P : Program) (t : TypeId) (d : DataW H) : Prop := ∀ n ∈ d.weights P t, n ≤ reachBytes
theorem wAll_mem {H : Type} {P : Program} {e : TypeId} : ∀ {l : List (DataW H)} {d : DataW H}, d ∈ l → ∀ n ∈ d.weights P e, n ∈ DataW.weightsAll P e l
  | x :: l, d, h, n, hn => by
    simp only [DataW.weightsAll, List.mem_append]
    rcases List.mem_cons.1 h with rfl | h
    · exact .inl hn
    · exact .inr (wAll_mem h n hn)
theorem wEach_mem {H : Type} {P : Program} : ∀ {ts : List TypeId} {l : List (DataW H)} {i : Nat} {t : TypeId} {d : DataW H}, ts[i]? = some t → l[i]? = some d → ∀ n ∈ d.weights P t, n ∈ DataW.weightsEach P ts l
  | t' :: ts, d' :: l, 0, t, d, h1, h2, n, hn => by
    simp at h1 h2
    subst h1; subst h2
    simp only [DataW.weightsEach, List.mem_append]
    exact .inl hn
  | t' :: ts, d' :: l, i + 1, t, d, h1, h2, n, hn => by
    simp only [DataW.weightsEach, List.mem_append]
    exact .inr (wEach_mem (i := i) (by simpa using h1) (by simpa using h2) n hn)
  | [], _, i, t, d, h1, _, _, _ => by simp at h1
  | _ :: _, [], i, t, d, _, h2, _, _ => by simp at h2
theorem wok_each {H : Type} {P : Program} {ts : List TypeId} {l : List (DataW H)} (h : (DataW.weightsEach P ts l).all (· ≤ reachBytes) = true) (i : Nat) {t : TypeId} {d : DataW H} (h1 : ts[i]? = some t) (h2 : l[i]? = some d) : WOk P t d := fun n hn => by
  have := List.all_eq_true.1 h n (wEach_mem h1 h2 n hn)
  simpa using this
/-- What some data's cells read as. -/
structure KD (P : Program) (t : TypeId) (α : Type) where
  n : Nat
  hn : P.cellsOf t = n
  R : World → List Value → α → Prop
  ext : ∀ {w w' : World} {cs : List Value} {a : α}, Ext w w' → R w cs a → R w' cs a
  opn : ∀ {H : Type} {enc : TypeId × Value → H} {w : World} {fuel : Nat} {cs : List Value} {x : DataW H × List MemPlace}, DataW.trod enc P w 0 (fun _ => true) true fuel t cs = some x → WOk P t x.1 → ∃ a, R w cs a
section
variable {P : Program} {t el : TypeId}
def I64 (n : Int) : Prop := -9223372036854775808 ≤ n ∧ n ≤ 9223372036854775807
def kInt (ht : P.underlying t = some (.int .i64)) (hn : P.cellsOf t = 1) : KD P t Int where
  n := 1
  hn := hn
  R := fun _ cs n => cs = [.int .i64 n] ∧ I64 n
  ext := fun _ h => h
  opn := fun h _ => by
    obtain ⟨n, hc, _, hw⟩ := DataW.trod_int ht h
    exact ⟨n, hc, bounds_i64 hw⟩
def kU8 (ht : P.underlying t = some (.int .u8)) (hn : P.cellsOf t = 1) : KD P t UInt8 where
  n := 1
  hn := hn
  R := fun _ cs b => cs = [bv b]
  ext := fun _ h => h
  opn := fun h _ => by
    obtain ⟨n, hc, _, hw⟩ := DataW.trod_int ht h
    obtain ⟨m, rfl, hm⟩ := nat_u8 hw
    refine ⟨UInt8.ofNat m, ?_⟩
    rw [hc]
    simp only [bv]
    congr 3
    rw [UInt8.toNat_ofNat']
    omega
def kBool (ht : P.underlying t = some .bool) (hn : P.cellsOf t = 1) : KD P t Bool where
  n := 1
  hn := hn
  R := fun _ cs b => cs = [.bool b]
  ext := fun _ h => h
  opn := fun h _ => by
    obtain ⟨b, hc, _⟩ := DataW.trod_bool ht h
    exact ⟨b, hc⟩
def kStr (ht : P.underlying t = some .string) (hn : P.cellsOf t = 1) : KD P t ByteArray where
  n := 1
  hn := hn
  R := fun _ cs s => cs = [.string s] ∧ s.data.toList.length ≤ 140737488351232
  ext := fun _ h => h
  opn := fun h hw => by
    obtain ⟨b, hc, rfl, hl⟩ := DataW.trod_string ht h
    exact ⟨b, hc, hw _ (by simp [DataW.weights])⟩
/-- Elements that stand one behind the other, in a slice. -/
def SlR {α : Type} (n : Nat) (R : World → List Value → α → Prop) (w : World) (A : Option Addr) (l : List α) : Prop :=
  ∀ (i : Nat) (hi : i < l.length), ∃ ad ce, A = some ad ∧ ce.length = n ∧ At w (ad.add (i * n)) ce ∧ R w ce l[i]
def kSlice {α : Type} (k : KD P el α) (ht : P.underlying t = some (.slice el)) (hn : P.cellsOf t = 1) (hb : 1 ≤ P.bytesOf el) : KD P t (List α) where
  n := 1
  hn := hn
  R := fun w cs l => ∃ A c, cs = [.slice A l.length c] ∧ l.length ≤ c ∧ c ≤ 140737488351232 ∧ SlR k.n k.R w A l
  ext := fun hx ⟨A, c, h1, h2, h3, h4⟩ => ⟨A, c, h1, h2, h3, fun i hi => by
    obtain ⟨ad, ce, e1, e2, e3, e4⟩ := h4 i hi
    exact ⟨ad, ce, e1, e2, e3.ext hx, k.ext hx e4⟩⟩
  opn := fun {H enc w fuel cs x} h hw => by
    rcases Go.Deep.open_slice ht h with ⟨h0, _⟩ | ⟨a, len, cap, m, n, D, Pl, rfl, _, hl, hm, hmm, rfl, hx⟩
    · exact ⟨[], none, 0, h0, Nat.le_refl _, Nat.zero_le _, fun i hi => absurd hi (Nat.not_lt_zero _)⟩
    · simp only [if_true] at hmm
      have hws : ∀ n ∈ DataW.weights P t (.slice ((List.range len).map D) ((List.range (m - len)).map fun j => D (len + j))), n ≤ reachBytes := hw
      simp only [DataW.weights, ht, List.mem_cons, List.mem_append, List.length_map, List.length_range] at hws
      have hcap : cap ≤ 140737488351232 := by
        have h1 := hws _ (.inl rfl)
        have h2 : len + (m - len) = cap := by omega
        rw [h2] at h1
        have h3 : cap * 1 ≤ cap * P.bytesOf el := Nat.mul_le_mul_left _ hb
        have h4 : cap ≤ reachBytes := by omega
        exact h4
      have key : ∀ i, i < len → ∃ b, ∃ ce, ce.length = k.n ∧ At w (a.add (i * k.n)) ce ∧ k.R w ce b := by
        intro i hi
        obtain ⟨ce, hc, ht'⟩ := hx i (by omega)
        rw [k.hn] at hc
        obtain ⟨_, hcl, hat⟩ := World.cells?_some hc
        obtain ⟨b, hb⟩ := k.opn ht' (fun n hn => hws n (.inr (.inl (wAll_mem (List.mem_map.2 ⟨i, List.mem_range.2 hi, rfl⟩) n hn))))
        refine ⟨b, ce, hcl, fun j u hu => ?_, hb⟩
        have hj : j < ce.length := (List.getElem?_eq_some_iff.1 hu).1
        rw [hat j (by omega), hu]
      obtain ⟨l, hll, hy⟩ := choose_list len key
      refine ⟨l, some a, cap, by rw [hll], by omega, hcap, fun i hi => ?_⟩
      obtain ⟨ce, h1, h2, h3⟩ := hy i hi
      exact ⟨a, ce, rfl, h1, h2, h3⟩
def kBytes (ht : P.underlying t = some (.slice el)) (he : P.underlying el = some (.int .u8)) (hc : P.cellsOf el = 1) (hn : P.cellsOf t = 1) (hb : 1 ≤ P.bytesOf el) : KD P t (List UInt8) where
  n := 1
  hn := hn
  R := fun w cs l => ∃ A c, cs = [.slice A l.length c] ∧ (l.length ≤ c ∧ c ≤ 140737488351232) ∧ Bs w A l
  ext := fun hx ⟨A, c, h1, h2, h3⟩ => ⟨A, c, h1, h2, h3.ext hx⟩
  opn := fun {H enc w fuel cs x} h hw => by
    obtain ⟨l, A, c, h1, h2, h3, h4⟩ := (kSlice (kU8 he hc) ht hn hb).opn h hw
    refine ⟨l, A, c, h1, ⟨h2, h3⟩, fun j u hu => ?_⟩
    have hj : j < l.length := by have := (List.getElem?_eq_some_iff.1 hu).1; simpa using this
    obtain ⟨ad, ce, e1, e2, e3, e4⟩ := h4 j hj
    have e4 : ce = [bv l[j]] := e4
    subst e4
    refine ⟨ad, e1, ?_⟩
    have := e3 0 (bv l[j]) rfl
    rw [addr_add_add] at this
    rw [show j * (kU8 he hc).n + 0 = j by show j * 1 + 0 = j; omega] at this
    rw [this, ← hu, List.getElem?_map, List.getElem?_eq_getElem hj]
    rfl
/-- A row of bytes, by value. -/
def kArr {m : Nat} (ht : P.underlying t = some (.array m el)) (he : P.underlying el = some (.int .u8)) (hc : P.cellsOf el = 1) (hn : P.cellsOf t = m) : KD P t (List UInt8) where
  n := m
  hn := hn
  R := fun w cs l => cs = l.map bv ∧ l.length = m
  ext := fun _ h => h
  opn := fun {H enc w fuel cs x} h _ => by
    obtain ⟨xs, f, _, _, hl, hxs, hall⟩ := DataW.trod_array ht h
    rw [hn] at hl
    have key : ∀ i, i < m → ∃ b : UInt8, cs[i]? = some (bv b) := by
      intro i hi
      have h1 := hall i hi
      rw [hc, Nat.mul_one] at h1
      have hd : (cs.drop i).take 1 = [cs[i]'(by omega)] := by rw [List.drop_eq_getElem_cons (by omega)]; rfl
      rw [hd, List.getElem?_eq_getElem (by omega)] at h1
      obtain ⟨b, hb⟩ := (kU8 he hc).opn h1 (by
        obtain ⟨n, _, hx, _⟩ := DataW.trod_int he h1
        rw [hx]; intro n hn; simp [DataW.weights] at hn)
      have hb : [cs[i]'(by omega)] = [bv b] := hb
      refine ⟨b, ?_⟩
      rw [List.getElem?_eq_getElem (by omega)]
      simpa using hb
    obtain ⟨l, hll, hy⟩ := choose_list m key
    refine ⟨l, ?_, hll⟩
    apply List.ext_getElem?
    intro i
    by_cases hi : i < m
    · rw [hy i (by omega), List.getElem?_map, List.getElem?_eq_getElem (by omega)]; rfl
    · rw [List.getElem?_eq_none (by omega), List.getElem?_eq_none (by simp; omega)]
theorem cut_cons {α : Type} (cs : List α) (o n : Nat) : cs.drop o = (cs.drop o).take n ++ cs.drop (o + n) := by
  have h := (List.take_append_drop n (cs.drop o)).symm
  rwa [List.drop_drop] at h
/-- A struct's parts. -/
theorem kd_parts {H : Type} {enc : TypeId × Value → H} {w : World} {fuel : Nat} {cs : List Value} {x : DataW H × List MemPlace} {fs : Array Field} (ht : P.underlying t = some (.struct fs)) (h : DataW.trod enc P w 0 (fun _ => true) true fuel t cs = some x) (hw : WOk P t x.1) :
    cs.length = P.cellsOf t ∧ ∀ (i : Nat) (f : Field), fs[i]? = some f → ∀ {α : Type} (k : KD P f.type α), ∃ a, k.R w ((cs.drop f.offset).take k.n) a := by
  obtain ⟨xs, n, _, rfl, hl, hxs, hall⟩ := DataW.trod_struct ht h
  have hws : ∀ n ∈ DataW.weights P t (.agg (xs.map (·.1))), n ≤ reachBytes := hw
  simp only [DataW.weights, ht] at hws
  refine ⟨hl, fun i f hf α k => ?_⟩
  have h1 := hall i f hf
  rw [k.hn] at h1
  have hi : i < fs.size := (Array.getElem?_eq_some_iff.1 hf).1
  rw [List.getElem?_eq_getElem (by omega)] at h1
  exact k.opn h1 (fun n hn => hws n (wEach_mem (i := i) (t := f.type) (d := (xs[i]'(by omega)).1) (by rw [List.getElem?_map, Array.getElem?_toList, hf]; rfl) (by rw [List.getElem?_map, List.getElem?_eq_getElem (by omega)]; rfl) n hn))
theorem kd_one {α : Type} {H : Type} {enc : TypeId × Value → H} {w : World} {v : Value} {d : DataW H} {ps : List MemPlace} (k : KD P t α) (h1 : v.cells.toList = [v]) (h : DataW.Trod enc P w 0 (fun _ => true) true t v d ps) (hw : WOk P t d) : ∃ a, k.R w [v] a := by
  obtain ⟨fuel, hf⟩ := h
  rw [h1] at hf
  exact k.opn hf hw
theorem kd_slice {α : Type} {H : Type} {enc : TypeId × Value → H} {w : World} {v : Value} {d : DataW H} {ps : List MemPlace} {r : Reach} {b0 : Nat} (k : KD P t α) (ht : P.underlying t = some (.slice el)) (hv : Value.okWide P w r b0 t v) (h : DataW.Trod enc P w 0 (fun _ => true) true t v d ps) (hw : WOk P t d) : ∃ a, k.R w [v] a := by
  obtain ⟨a, l, c, rfl⟩ := okWide_slice ht hv
  exact kd_one k rfl h hw
theorem kd_str {α : Type} {H : Type} {enc : TypeId × Value → H} {w : World} {v : Value} {d : DataW H} {ps : List MemPlace} {r : Reach} {b0 : Nat} (k : KD P t α) (ht : P.underlying t = some .string) (hv : Value.okWide P w r b0 t v) (h : DataW.Trod enc P w 0 (fun _ => true) true t v d ps) (hw : WOk P t d) : ∃ a, k.R w [v] a := by
  obtain ⟨s, rfl⟩ := okWide_string ht hv
  exact kd_one k rfl h hw
theorem kd_bool {α : Type} {H : Type} {enc : TypeId × Value → H} {w : World} {v : Value} {d : DataW H} {ps : List MemPlace} {r : Reach} {b0 : Nat} (k : KD P t α) (ht : P.underlying t = some .bool) (hv : Value.okWide P w r b0 t v) (h : DataW.Trod enc P w 0 (fun _ => true) true t v d ps) (hw : WOk P t d) : ∃ a, k.R w [v] a := by
  obtain ⟨s, rfl⟩ := okWide_bool ht hv
  exact kd_one k rfl h hw
theorem kd_int {α : Type} {H : Type} {enc : TypeId × Value → H} {w : World} {v : Value} {d : DataW H} {ps : List MemPlace} {r : Reach} {b0 : Nat} {q : IntKind} (k : KD P t α) (ht : P.underlying t = some (.int q)) (hv : Value.okWide P w r b0 t v) (h : DataW.Trod enc P w 0 (fun _ => true) true t v d ps) (hw : WOk P t d) : ∃ a, k.R w [v] a := by
  obtain ⟨s, rfl⟩ := okWide_int ht hv
  exact kd_one k rfl h hw
theorem kd_struct {α : Type} {H : Type} {enc : TypeId × Value → H} {w : World} {v : Value} {d : DataW H} {ps : List MemPlace} {r : Reach} {b0 : Nat} {fs : Array Field} (k : KD P t α) (ht : P.underlying t = some (.struct fs)) (hv : Value.okWide P w r b0 t v) (h : DataW.Trod enc P w 0 (fun _ => true) true t v d ps) (hw : WOk P t d) : ∃ cs a, v = .agg cs.toArray ∧ k.R w cs a := by
  obtain ⟨cs, rfl, hsz⟩ := okWide_struct ht hv
  obtain ⟨fuel, hf⟩ := h
  obtain ⟨a, ha⟩ := k.opn hf hw
  exact ⟨cs.toList, a, by simp, ha⟩
end
end Go.Proofs.Ythhphmbhlddihaa
