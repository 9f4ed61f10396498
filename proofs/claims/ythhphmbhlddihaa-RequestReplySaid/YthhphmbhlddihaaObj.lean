/- Objects behind pointers: what a step keeps but for some blocks; structs of one-cell fields; closures. No program in sight. -/
import Derived.Test.YthhphmbhlddihaaInc
import Derived.Test.YthhphmbhlddihaaFlat
import Derived.LaidEqlPtr
namespace Go.Proofs.Ythhphmbhlddihaa
open Go Go.RowKit
set_option linter.unusedVariables false

/-- All blocks but those of S are as they were. -/
structure Keeps (w w' : World) (S : Nat → Prop) : Prop where
  os : w'.os = w.os
  tape : w'.tape = w.tape
  output : w'.output = w.output
  size : w.heap.size ≤ w'.heap.size
  block : ∀ k, k < w.heap.size → ¬ S k → w'.heap[k]? = w.heap[k]?
section
variable {a b c w w' : World} {S S' : Nat → Prop}
theorem Keeps.rfl' (w : World) (S : Nat → Prop) : Keeps w w S := ⟨rfl, rfl, rfl, Nat.le_refl _, fun _ _ _ => rfl⟩
theorem Keeps.trans' (h : Keeps a b S) (k : Keeps b c S) : Keeps a c S :=
  ⟨k.os.trans h.os, k.tape.trans h.tape, k.output.trans h.output, Nat.le_trans h.size k.size, fun i hi hn => (k.block i (Nat.lt_of_lt_of_le hi h.size) hn).trans (h.block i hi hn)⟩
theorem Keeps.mono (h : Keeps a b S) (hs : ∀ k, k < a.heap.size → S k → S' k) : Keeps a b S' := ⟨h.os, h.tape, h.output, h.size, fun i hi hn => h.block i hi fun hh => hn (hs i hi hh)⟩
theorem Keeps.of_ext (h : Ext a b) (S : Nat → Prop) : Keeps a b S := ⟨h.os, h.tape, h.output, h.size, fun i hi _ => h.block i hi⟩
theorem Keeps.of_only {g : Nat} (h : a.grownBy b (some g)) (hs : S g) : Keeps a b S := ⟨h.os, h.tape, h.output, h.size, fun i hi hn => h.block i hi (fun e => by cases e; exact hn hs)⟩
theorem Keeps.of_below {B : Nat} (h : Below B a b) (hs : ∀ k, k < a.heap.size → B ≤ k → S k) : Keeps a b S := ⟨h.os, h.tape, h.output, h.size, fun i hi hn => h.block i (Nat.lt_of_not_le fun hh => hn (hs i hi hh))⟩
theorem Keeps.below {B : Nat} (h : Keeps a b S) (hs : ∀ k, S k → B ≤ k) (hB : B ≤ a.heap.size) : Below B a b := ⟨h.os, h.tape, h.output, h.size, fun i hi => h.block i (by omega) fun hh => by have := hs i hh; omega⟩
theorem Keeps.ext {w0 : World} (h : Keeps a b S) (h0 : Ext w0 a) (hs : ∀ k, S k → w0.heap.size ≤ k) : Ext w0 b := Below.trans h0 (h.below hs h0.size)
theorem Keeps.cell (h : Keeps a b S) {p : Addr} {v : Value} (hc : a.cell? p = some v) (hn : ¬ S p.block) : b.cell? p = some v := by
  rw [World.cell?_of_block (h.block p.block (World.block_lt_of_cell? a p hc) hn)]; exact hc
theorem Rd.keeps {A : Option Addr} {cs : List Value} (h : Rd a A cs) (hk : Keeps a b S) (hn : ∀ ad, A = some ad → ¬ S ad.block) : Rd b A cs := fun j u hu => by
  obtain ⟨ad, ha, hc⟩ := h j u hu
  exact ⟨ad, ha, hk.cell hc (by rw [addr_add_block]; exact hn ad ha)⟩
theorem Bs.keeps {A : Option Addr} {l : List UInt8} (h : Bs a A l) (hk : Keeps a b S) (hn : ∀ ad, A = some ad → ¬ S ad.block) : Bs b A l := Rd.keeps h hk hn
theorem Bs.keepsN {A : Option Addr} {l : List UInt8} (h : Bs a A l) (hk : Keeps a b S) (hn : ∀ ad, A = some ad → l ≠ [] → ¬ S ad.block) : Bs b A l := by
  by_cases hl : l = []
  · subst hl; exact Bs.nil _ _
  · exact h.keeps hk (fun ad ha => hn ad ha hl)
theorem Blk.keeps {g : Nat} {t : TypeId} {cs : Array Value} (h : Blk a g t cs) (hk : Keeps a b S) (hn : ¬ S g) : Blk b g t cs := (hk.block g h.lt hn).trans h
theorem own_keeps {base : Nat} {T : TypeId} {A : Option Addr} {n c : Nat} {xs : List Value} (h : a.ownsRow base T 1 (.slice A n c) n xs) (hk : Keeps a b S) (hn : ∀ ad, A = some ad → ¬ S ad.block) : b.ownsRow base T 1 (.slice A n c) n xs := by
  refine ⟨h.1, ?_⟩
  rcases h.2 with hl | ⟨g, cap, cur, hv, hb, hg, hr⟩
  · exact .inl hl
  · refine .inr ⟨g, cap, cur, hv, hb, ?_, hr⟩
    have hA : A = some ⟨g, 0, none⟩ := by injection hv
    exact Blk.keeps (t := T) hg hk (hn _ hA)
/-- S, and whatever was made meanwhile. -/
def more (S : Nat → Prop) (w w' : World) : Nat → Prop := fun k => S k ∨ (w.heap.size ≤ k ∧ k < w'.heap.size)
theorem Keeps.of_grown {a b : World} {S : Nat → Prop} {o : Option Nat} (h : a.grownBy b o) (hs : ∀ g, o = some g → S g) : Keeps a b S := ⟨h.os, h.tape, h.output, h.size, fun i hi hn => h.block i hi (fun e => by cases e; exact hn (hs _ rfl))⟩
theorem Keeps.trans_more {a b c : World} {S : Nat → Prop} (h : Keeps a b S) (k : Keeps b c (more S a b)) : Keeps a c S :=
  ⟨k.os.trans h.os, k.tape.trans h.tape, k.output.trans h.output, Nat.le_trans h.size k.size, fun i hi hn => (k.block i (Nat.lt_of_lt_of_le hi h.size) (fun hh => by rcases hh with h1 | h1; exact hn h1; exact absurd h1.1 (by omega))).trans (h.block i hi hn)⟩
theorem own_ne_blk {base : Nat} {T T' : TypeId} {A : Option Addr} {n c g : Nat} {xs : List Value} {cs : Array Value} (h : w.ownsRow base T 1 (.slice A n c) n xs) (hb : Blk w g T' cs) (hne : T ≠ T') : ∀ ad, A = some ad → ad.block ≠ g := by
  intro ad ha
  rcases h.2 with ⟨hv, _⟩ | ⟨g', cap, cur, hv, _, hg, _⟩
  · injection hv with hA; rw [ha] at hA; cases hA
  · injection hv with hA
    rw [ha] at hA
    cases hA
    rintro rfl
    unfold Blk at hb
    rw [hg] at hb
    injection hb with hb
    injection hb with _ ht
    exact hne ht
end

/-- The place of a struct's field is as many cells on as its number. -/
structure Fld (P : Program) (t : TypeId) (f : Nat) : Prop where
  run : ∀ w g, (Instr.fieldAt t (.pointer (some ⟨g, 0, none⟩)) f).run P w = .ok (.pointer (some ⟨g, f, none⟩)) w
section
variable {P : Program} {ops : Array Oper} {Q : Exit → (Nat → Value) → World → Prop} {rest : List Oper} {e : Nat → Value} {w : World} {d : Tmp} {ty : TypeId} {pos : String} {aft : Array Edge}
theorem run_equal_ptr {t el : TypeId} (ht : P.underlying t = some (.pointer el)) (A : Option Addr) : (Op.equal t (.pointer A) (.pointer none)).run P w = .ok A.isNone w := by
  have h : ∀ d, (Op.equalIn (d + 1) t (.pointer A) (.pointer none)).run P w = .ok A.isNone w := fun d => by cases A <;> simp [Op.equalIn, run_underlying ht]
  exact h 9999
theorem OW_eqlNil {x : Operand} {t t' el : TypeId} {A : Option Addr} (ht : P.underlying t = some (.pointer el)) (hx : ev e x = .pointer A) (h : OW P ops Q rest (upd e d (.bool A.isNone)) w) : OW P ops Q (⟨some d, .binOp .eql t x (.const (.pointer none)) t', ty, pos, aft, none⟩ :: rest) e w := by
  refine OW_val (.bool A.isNone) rfl ?_ h
  have hr := run_equal_ptr (w := w) ht A
  have h2 : (binOp .eql t (.pointer A) (.pointer none)).run P w = .ok (.bool A.isNone) w := by
    show Sem.run P (Op.equal t (.pointer A) (.pointer none) >>= fun r => pure (Value.bool r)) w = _
    rw [Sem.run_bind, hr]; rfl
  have hcn : ev e (.const (.pointer none)) = .pointer none := rfl
  simp only [execOp, hx, hcn]
  show Sem.run P ((do eqGuard .eql t x (.const (.pointer none)) (.pointer A) (.pointer none); binOp .eql t (.pointer A) (.pointer none)) >>= fun a => pure (Next.value a)) w = _
  rw [Sem.run_bind]
  show ((binOp .eql t (.pointer A) (.pointer none)).run P w).andThen _ = _
  rw [h2]; rfl
theorem OW_neqNil {x : Operand} {t t' el : TypeId} {A : Option Addr} (ht : P.underlying t = some (.pointer el)) (hx : ev e x = .pointer A) (h : OW P ops Q rest (upd e d (.bool (!A.isNone))) w) : OW P ops Q (⟨some d, .binOp .neq t x (.const (.pointer none)) t', ty, pos, aft, none⟩ :: rest) e w := by
  refine OW_val (.bool (!A.isNone)) rfl ?_ h
  have hr := run_equal_ptr (w := w) ht A
  have h2 : (binOp .neq t (.pointer A) (.pointer none)).run P w = .ok (.bool (!A.isNone)) w := by
    show Sem.run P (Op.equal t (.pointer A) (.pointer none) >>= fun r => pure (Value.bool (!r))) w = _
    rw [Sem.run_bind, hr]; rfl
  have hcn : ev e (.const (.pointer none)) = .pointer none := rfl
  simp only [execOp, hx, hcn]
  show Sem.run P ((do eqGuard .neq t x (.const (.pointer none)) (.pointer A) (.pointer none); binOp .neq t (.pointer A) (.pointer none)) >>= fun a => pure (Next.value a)) w = _
  rw [Sem.run_bind]
  show ((binOp .neq t (.pointer A) (.pointer none)).run P w).andThen _ = _
  rw [h2]; rfl
theorem OW_nilCheck {x : Operand} {ad : Addr} (hx : ev e x = .pointer (some ad)) (h : OW P ops Q rest (upd e d (.pointer (some ad))) w) : OW P ops Q (⟨some d, .nilCheck x, ty, pos, aft, none⟩ :: rest) e w :=
  OW_val _ rfl (by simp only [execOp, hx]; rfl) h
/-- A field's place, in a struct that stands at a block's head. -/
theorem OW_fieldAddr {x : Operand} {t : TypeId} {g f : Nat} {fs : Array Field} {fd : Field} (ht : P.underlying t = some (.struct fs)) (hf : fs[f]? = some fd) (hx : ev e x = .pointer (some ⟨g, 0, none⟩)) (hn : fd.offset = f) (hsz : (fieldPlace ⟨g, 0, none⟩ fd).run P w = .ok ⟨g, f, none⟩ w)
    (h : OW P ops Q rest (upd e d (.pointer (some ⟨g, f, none⟩))) w) : OW P ops Q (⟨some d, .fieldAddr t x f, ty, pos, aft, none⟩ :: rest) e w := by
  refine OW_val _ rfl ?_ h
  simp [execOp, hx, Instr.fieldAt, Instr.sureAddr, run_underlying ht, hf, hsz]
/-- A struct, built. -/
theorem OW_build {t : TypeId} {ps : List (Nat × Operand)} (ps' : List (Nat × Value)) (cs : Array Value) (hr : ∀ w, (Instr.build t ps'.toArray).run P w = .ok (.agg cs) w) (hp : ps.map (fun x => (x.1, ev e x.2)) = ps') (h : OW P ops Q rest (upd e d (.agg cs)) w) :
    OW P ops Q (⟨some d, .build t ps.toArray, ty, pos, aft, none⟩ :: rest) e w := by
  refine OW_val _ rfl ?_ h
  subst hp
  simp only [execOp, Sem.run_bind]
  rw [show (ps.toArray.map fun (x : Nat × Operand) => match x with | (i, x) => (i, ev e x)) = (ps.map fun x => (x.1, ev e x.2)).toArray from by simp, hr w]
  rfl
/-- A string's bytes, in a new row. -/
theorem OW_bytesOf {x : Operand} {t t' el : TypeId} (s : ByteArray) (ht : P.underlying t = some .string) (hd : P.underlying t' = some (.slice el)) (he : P.underlying el = some (.int .u8)) (hx : ev e x = .string s)
    (h : ∀ w' A c, Bs w' A s.data.toList → (∀ ad, A = some ad → w.heap.size ≤ ad.block) → Ext w w' → OW P ops Q rest (upd e d (.slice A s.data.toList.length c)) w') : OW P ops Q (⟨some d, .convert t t' x, ty, pos, aft, none⟩ :: rest) e w := by
  have hlen : s.data.toList.length = s.size := by show s.data.toList.length = s.data.size; rw [Array.length_toList]
  have hr := run_bytes_of_string (P := P) w t t' el s ht hd he
  refine OW_valw (.slice (some ⟨w.heap.size, 0, none⟩) s.size (grownCap w s.size 0 el)) (w.drew.alloc (.cells (bytesRow s (grownCap w s.size 0 el)) el ((bytesRow s (grownCap w s.size 0 el)).size, (bytesRow s (grownCap w s.size 0 el)).size + 1))) rfl ?_ ?_
  · simp only [execOp, hx, Sem.run_bind, hr]; rfl
  · have h' := fun h1 h2 => h (w.drew.alloc (.cells (bytesRow s (grownCap w s.size 0 el)) el ((bytesRow s (grownCap w s.size 0 el)).size, (bytesRow s (grownCap w s.size 0 el)).size + 1))) (some ⟨w.heap.size, 0, none⟩) (grownCap w s.size 0 el) h1 (fun ad ha => by cases ha; exact Nat.le_refl _) h2
    rw [hlen] at h'
    refine h' ?_ ?_ --(fun ad ha => by cases ha; exact Nat.le_refl _) ?_
    · intro j u hu
      refine ⟨_, rfl, ?_⟩
      have hb : (w.drew.alloc (.cells (bytesRow s (grownCap w s.size 0 el)) el ((bytesRow s (grownCap w s.size 0 el)).size, (bytesRow s (grownCap w s.size 0 el)).size + 1))).heap[w.heap.size]? = some (.cells (bytesRow s (grownCap w s.size 0 el)) el ((bytesRow s (grownCap w s.size 0 el)).size, (bytesRow s (grownCap w s.size 0 el)).size + 1)) := by
        show (w.heap.push _)[w.heap.size]? = _
        simp
      have hcell : (w.drew.alloc (.cells (bytesRow s (grownCap w s.size 0 el)) el ((bytesRow s (grownCap w s.size 0 el)).size, (bytesRow s (grownCap w s.size 0 el)).size + 1))).cell? ((⟨w.heap.size, 0, none⟩ : Addr).add j) = (bytesRow s (grownCap w s.size 0 el))[j]? := by
        rw [show ((⟨w.heap.size, 0, none⟩ : Addr).add j) = ⟨w.heap.size, j, none⟩ by unfold Addr.add; split <;> simp_all]
        exact cell_of_row _ _ _ _ _ _ hb
      rw [hcell]
      have hj : j < s.data.toList.length := by have := (List.getElem?_eq_some_iff.1 hu).1; simpa using this
      unfold bytesRow
      rw [Array.getElem?_append_left (by simpa using hj)]
      rw [← hu]
      simp
      rfl
    · exact ⟨rfl, rfl, rfl, by show w.heap.size ≤ (w.heap.push _).size; simp, fun k hk => by show (w.heap.push _)[k]? = _; rw [Array.getElem?_push, if_neg (by omega)]⟩
/-- A string of some bytes. -/
theorem OW_strOf {x : Operand} {t t' el : TypeId} {A : Option Addr} {l : List UInt8} {c : Nat} (ht : P.underlying t = some (.slice el)) (he : P.underlying el = some (.int .u8)) (hd : P.underlying t' = some .string) (hb : Bs w A l) (hx : ev e x = .slice A l.length c)
    (h : OW P ops Q rest (upd e d (.string ⟨l.toArray⟩)) w) : OW P ops Q (⟨some d, .convert t t' x, ty, pos, aft, none⟩ :: rest) e w := by
  refine OW_val _ rfl ?_ h
  have hr : (convert t t' (.slice A l.length c)).run P w = .ok (.string ⟨l.toArray⟩) w := by
    cases A with
    | some ad => exact run_convert_bytes_back w t t' el ad c l ht he hd (fun j hj => by
        obtain ⟨ad', ha, hc⟩ := hb.at_ (j := j) hj
        cases ha
        exact hc)
    | none =>
      have hl : l = [] := by
        cases l with
        | nil => rfl
        | cons b r => obtain ⟨ad, ha, _⟩ := hb 0 (bv b) rfl; cases ha
      subst hl
      rw [run_convert_bytes_string w t t' el none _ c ht he hd]
      rfl
  simp only [execOp, hx, Sem.run_bind, hr]; rfl
/-- A row behind a pointer to an array, whole. -/
structure SlP (P : Program) (t : TypeId) (n : Nat) : Prop where
  run : ∀ w g, (Instr.sliceAt t (.pointer (some ⟨g, 0, none⟩)) none none none).run P w = .ok (.slice (some ⟨g, 0, none⟩) n n) w
theorem OW_sliceP {x : Operand} {t : TypeId} {g n : Nat} (hr : SlP P t n) (hx : ev e x = .pointer (some ⟨g, 0, none⟩)) (h : OW P ops Q rest (upd e d (.slice (some ⟨g, 0, none⟩) n n)) w) : OW P ops Q (⟨some d, .slice t x none none none, ty, pos, aft, none⟩ :: rest) e w :=
  OW_val _ rfl (by simp only [execOp, hx, Option.map, Sem.run_bind, hr.run w g]; rfl) h
theorem OW_box {t : TypeId} {x : Operand} (v : Value) (hx : ev e x = v) (h : ∀ w' g, Blk w' g t v.cells → w.heap.size ≤ g → g < w'.heap.size → Ext w w' → OW P ops Q rest (upd e d (.pointer (some ⟨g, 0, none⟩))) w') : OW P ops Q (⟨some d, .box t x, ty, pos, aft, none⟩ :: rest) e w := by
  refine OW_valw (.pointer (some ⟨w.heap.size, 0, none⟩)) (w.alloc (.cells v.cells t)) rfl ?_ (h _ w.heap.size (Blk.new w t _) (Nat.le_refl _) (by simp) (Ext.alloc' w _))
  simp only [execOp, hx, Instr.box, newVar, newRow]
  rfl
/-- A closure, or a function's value, called. -/
theorem OW_callF {f : FuncId} {fn : Func} {x : Operand} {args : List Operand} {args' : List Value} {caps : List Value} {tys : Array TypeId} {dst : Option Tmp} {R : Ending → World → Prop} (hf : P.funcs[f]? = some fn) (hn : (fn.name == "runtime.NumGoroutine") = false) (hb : fn.body.isNone = false)
    (hx : ev e x = .func (.func f) #[] caps.toArray) (hc : Calls P f (args' ++ caps).toArray w R) (ha : args.map (ev e) = args') (h : ∀ en w', R en w' → ∃ v, en = .returned v ∧ OW P ops Q rest (put e dst v) w') :
    OW P ops Q (⟨dst, .call { callee := .value x, args := args.toArray, argTypes := tys }, ty, pos, aft, none⟩ :: rest) e w := by
  refine OW_op rfl ?_
  unfold opW
  have h1 : (callFunc f (args' ++ caps).toArray).run P w = .ok (.enter f (args' ++ caps).toArray) w := by
    simp only [callFunc, program]
    show Sem.run P (match P.funcs[f]? with | none => _ | some fn => _) w = _
    simp only [hf, hn, hb]
    rfl
  have h2 : (execOp (ev e) ⟨dst, .call { callee := .value x, args := args.toArray, argTypes := tys }, ty, pos, aft, none⟩).run P w = .ok (.enter f (args' ++ caps).toArray) w := by
    subst ha
    simp only [execOp, resolve, hx, Deferred.ofValue]
    simpa [invoke] using h1
  rw [h2]
  exact ⟨rfl, hc.mono h⟩
/-- The same, and which blocks have turned. -/
theorem OW_appendK {x y : Operand} {t el : TypeId} {z : Value} {b : Nat} {base : Nat} {A A' : Option Addr} {n c m c' : Nat} {xs news : List Value} (ht : P.underlying t = some (.slice el)) (hinfo : (P.info? el).map (fun i => (i.zero, i.size, i.bytes)) = some (some z, 1, b)) (hz : z.cells.size = 1)
    (hx : ev e x = .slice A n c) (hy : ev e y = .slice A' m c') (hown : w.ownsRow base el 1 (.slice A n c) n xs) (hrd : Rd w A' news) (hl : news.length = m) (h1 : ∀ u ∈ news, u.oneCell' = true)
    (hm : n + m ≤ maxLen) (hb : (n + m) * b ≤ 140737488355328) (hbase : base ≤ w.heap.size)
    (h : ∀ w' A2 c2, w'.ownsRow base el 1 (.slice A2 (n + m) c2) (n + m) (xs ++ news) → w.grownBy w' (Value.ownBlock (.slice A n c)) → (Value.ownBlock (.slice A2 (n + m) c2) = Value.ownBlock (.slice A n c) ∨ Value.ownBlock (.slice A2 (n + m) c2) = some w.heap.size) → OW P ops Q rest (upd e d (.slice A2 (n + m) c2)) w') :
    OW P ops Q (⟨some d, .call { callee := .builtin .append, args := #[x, y], argTypes := #[t, t] }, ty, pos, aft, none⟩ :: rest) e w := by
  obtain ⟨i0, hi, hz1, h2, h3⟩ := info_parts hinfo
  have step : ∃ v' w', (Builtin.append_ #[t, t] ty #[.slice A n c, .slice A' m c']).run P w = .ok v' w' ∧ w'.ownsRow base el 1 v' (n + m) (xs ++ news) ∧ w.grownBy w' (Value.ownBlock (.slice A n c)) ∧ (v'.ownBlock = Value.ownBlock (.slice A n c) ∨ v'.ownBlock = some w.heap.size) := by
    cases A' with
    | none =>
      have hn0 : news = [] := by
        cases news with
        | nil => rfl
        | cons u r => obtain ⟨ad, ha, _⟩ := hrd 0 u rfl; cases ha
      subst hn0
      have hm0 : m = 0 := by simpa using hl.symm
      subst hm0
      refine ⟨.slice A n c, w, ?_, by simpa using hown, World.grownBy.refl w _, .inl rfl⟩
      rcases hown.2 with ⟨h', h0⟩ | ⟨g, cap, cur, hv, _, _, hnc, _⟩
      · injection h' with hA _ hc
        subst hA; subst h0; subst hc
        simp [Builtin.append_, run_underlying ht, sizeOf, typeInfo, hi, Builtin.lenOf, Builtin.firstCells]
      · injection hv with hA _ hc
        subst hA; subst hc
        simp [Builtin.append_, run_underlying ht, sizeOf, typeInfo, hi, Builtin.lenOf, Builtin.firstCells, hnc, storeCells]
    | some ad =>
      obtain ⟨v', w', hrun, g1, g2, _, g3⟩ := run_append_own_at (P := P) w base t ty el i0 z 1 b ht hi hz1 h2 h3 hz (by decide) (.slice A n c) n xs hown ad m c' news (by simpa using hl)
        (fun j u hu => by obtain ⟨ad', ha, hc⟩ := hrd j u hu; cases ha; exact hc) h1 hm hb hbase
      exact ⟨v', w', hrun, g1, g2, g3⟩
  obtain ⟨v', w', hrun, g1, g2, g3⟩ := step
  have hform : ∃ A2 c2, v' = .slice A2 (n + m) c2 := by
    rcases g1.2 with ⟨h', h0⟩ | ⟨g, cap, cur, hv, _⟩
    · exact ⟨none, 0, by rw [h', h0]⟩
    · exact ⟨_, _, hv⟩
  obtain ⟨A2, c2, rfl⟩ := hform
  refine OW_valw (.slice A2 (n + m) c2) w' rfl ?_ (h w' A2 c2 g1 g2 g3)
  simp [execOp, resolve, invoke, builtin, hx, hy, hrun]
/-- A field's place, by the run itself. -/
theorem OW_fieldF {x : Operand} {t : TypeId} {g f : Nat} (hr : Fld P t f) (hx : ev e x = .pointer (some ⟨g, 0, none⟩))
    (h : OW P ops Q rest (upd e d (.pointer (some ⟨g, f, none⟩))) w) : OW P ops Q (⟨some d, .fieldAddr t x f, ty, pos, aft, none⟩ :: rest) e w :=
  OW_val _ rfl (by simp only [execOp, hx, Sem.run_bind, hr.run w g]; rfl) h
end
end Go.Proofs.Ythhphmbhlddihaa
