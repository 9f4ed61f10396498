/- Several texts in one, as they stand in wip/src. -/
import Derived.LaidEqlPtr
import Derived.Deep.MidRow
import Derived.ProofKit
import Derived.OpenShut
import Derived.ShutString
import Derived.ChangeOld
import Derived.Deep.Slices
import Derived.SizedLaws
import Derived.Test.YtdpomchhbbopbaaGr2
/- Objects behind pointers: what a step keeps but for some blocks; structs of one-cell fields; closures. No program in sight. -/
namespace Go.Proofs.Ytdpomchhbbopbaa
open Go Go.RowKit
set_option linter.unusedVariables false

/-- All blocks but those of S are as they were. -/
structure Keeps (w w' : World) (S : Nat → Prop) : Prop where
  os : w'.os = w.os
  tape : w'.tape = w.tape
  output : w'.output = w.output
  size : w.heap.size ≤ w'.heap.size
  block : ∀ k, k < w.heap.size → ¬ S k → w'.heap[k]? = w.heap[k]?
section
variable {a b c w w' : World} {S S' : Nat → Prop}
theorem Keeps.rfl' (w : World) (S : Nat → Prop) : Keeps w w S := ⟨rfl, rfl, rfl, Nat.le_refl _, fun _ _ _ => rfl⟩
theorem Keeps.trans' (h : Keeps a b S) (k : Keeps b c S) : Keeps a c S :=
  ⟨k.os.trans h.os, k.tape.trans h.tape, k.output.trans h.output, Nat.le_trans h.size k.size, fun i hi hn => (k.block i (Nat.lt_of_lt_of_le hi h.size) hn).trans (h.block i hi hn)⟩
theorem Keeps.mono (h : Keeps a b S) (hs : ∀ k, k < a.heap.size → S k → S' k) : Keeps a b S' := ⟨h.os, h.tape, h.output, h.size, fun i hi hn => h.block i hi fun hh => hn (hs i hi hh)⟩
theorem Keeps.of_ext (h : Ext a b) (S : Nat → Prop) : Keeps a b S := ⟨h.os, h.tape, h.output, h.size, fun i hi _ => h.block i hi⟩
theorem Keeps.of_only {g : Nat} (h : a.grownBy b (some g)) (hs : S g) : Keeps a b S := ⟨h.os, h.tape, h.output, h.size, fun i hi hn => h.block i hi (fun e => by cases e; exact hn hs)⟩
theorem Keeps.of_below {B : Nat} (h : Below B a b) (hs : ∀ k, k < a.heap.size → B ≤ k → S k) : Keeps a b S := ⟨h.os, h.tape, h.output, h.size, fun i hi hn => h.block i (Nat.lt_of_not_le fun hh => hn (hs i hi hh))⟩
theorem Keeps.below {B : Nat} (h : Keeps a b S) (hs : ∀ k, S k → B ≤ k) (hB : B ≤ a.heap.size) : Below B a b := ⟨h.os, h.tape, h.output, h.size, fun i hi => h.block i (by omega) fun hh => by have := hs i hh; omega⟩
theorem Keeps.ext {w0 : World} (h : Keeps a b S) (h0 : Ext w0 a) (hs : ∀ k, S k → w0.heap.size ≤ k) : Ext w0 b := Below.trans h0 (h.below hs h0.size)
theorem Keeps.cell (h : Keeps a b S) {p : Addr} {v : Value} (hc : a.cell? p = some v) (hn : ¬ S p.block) : b.cell? p = some v := by
  rw [World.cell?_of_block (h.block p.block (World.block_lt_of_cell? a p hc) hn)]; exact hc
theorem Rd.keeps {A : Option Addr} {cs : List Value} (h : Rd a A cs) (hk : Keeps a b S) (hn : ∀ ad, A = some ad → ¬ S ad.block) : Rd b A cs := fun j u hu => by
  obtain ⟨ad, ha, hc⟩ := h j u hu
  exact ⟨ad, ha, hk.cell hc (by rw [addr_add_block]; exact hn ad ha)⟩
theorem Bs.keeps {A : Option Addr} {l : List UInt8} (h : Bs a A l) (hk : Keeps a b S) (hn : ∀ ad, A = some ad → ¬ S ad.block) : Bs b A l := Rd.keeps h hk hn
theorem Bs.keepsN {A : Option Addr} {l : List UInt8} (h : Bs a A l) (hk : Keeps a b S) (hn : ∀ ad, A = some ad → l ≠ [] → ¬ S ad.block) : Bs b A l := by
  by_cases hl : l = []
  · subst hl; exact Bs.nil _ _
  · exact h.keeps hk (fun ad ha => hn ad ha hl)
theorem Blk.keeps {g : Nat} {t : TypeId} {cs : Array Value} (h : Blk a g t cs) (hk : Keeps a b S) (hn : ¬ S g) : Blk b g t cs := (hk.block g h.lt hn).trans h
theorem own_keeps {base : Nat} {T : TypeId} {A : Option Addr} {n c : Nat} {xs : List Value} (h : a.ownsRow base T 1 (.slice A n c) n xs) (hk : Keeps a b S) (hn : ∀ ad, A = some ad → ¬ S ad.block) : b.ownsRow base T 1 (.slice A n c) n xs := by
  refine ⟨h.1, ?_⟩
  rcases h.2 with hl | ⟨g, cap, cur, hv, hb, hg, hr⟩
  · exact .inl hl
  · refine .inr ⟨g, cap, cur, hv, hb, ?_, hr⟩
    have hA : A = some ⟨g, 0, none⟩ := by injection hv
    exact Blk.keeps (t := T) hg hk (hn _ hA)
/-- S, and whatever was made meanwhile. -/
def more (S : Nat → Prop) (w w' : World) : Nat → Prop := fun k => S k ∨ (w.heap.size ≤ k ∧ k < w'.heap.size)
theorem Keeps.of_grown {a b : World} {S : Nat → Prop} {o : Option Nat} (h : a.grownBy b o) (hs : ∀ g, o = some g → S g) : Keeps a b S := ⟨h.os, h.tape, h.output, h.size, fun i hi hn => h.block i hi (fun e => by cases e; exact hn (hs _ rfl))⟩
theorem Keeps.trans_more {a b c : World} {S : Nat → Prop} (h : Keeps a b S) (k : Keeps b c (more S a b)) : Keeps a c S :=
  ⟨k.os.trans h.os, k.tape.trans h.tape, k.output.trans h.output, Nat.le_trans h.size k.size, fun i hi hn => (k.block i (Nat.lt_of_lt_of_le hi h.size) (fun hh => by rcases hh with h1 | h1; exact hn h1; exact absurd h1.1 (by omega))).trans (h.block i hi hn)⟩
theorem own_ne_blk {base : Nat} {T T' : TypeId} {A : Option Addr} {n c g : Nat} {xs : List Value} {cs : Array Value} (h : w.ownsRow base T 1 (.slice A n c) n xs) (hb : Blk w g T' cs) (hne : T ≠ T') : ∀ ad, A = some ad → ad.block ≠ g := by
  intro ad ha
  rcases h.2 with ⟨hv, _⟩ | ⟨g', cap, cur, hv, _, hg, _⟩
  · injection hv with hA; rw [ha] at hA; cases hA
  · injection hv with hA
    rw [ha] at hA
    cases hA
    rintro rfl
    unfold Blk at hb
    rw [hg] at hb
    injection hb with hb
    injection hb with _ ht
    exact hne ht
end

/-- The place of a struct's field is as many cells on as its number. -/
structure Fld (P : Program) (t : TypeId) (f : Nat) : Prop where
  run : ∀ w g, (Instr.fieldAt t (.pointer (some ⟨g, 0, none⟩)) f).run P w = .ok (.pointer (some ⟨g, f, none⟩)) w
section
variable {P : Program} {ops : Array Oper} {Q : Exit → (Nat → Value) → World → Prop} {rest : List Oper} {e : Nat → Value} {w : World} {d : Tmp} {ty : TypeId} {pos : String} {aft : Array Edge}
theorem run_equal_ptr {t el : TypeId} (ht : P.underlying t = some (.pointer el)) (A : Option Addr) : (Op.equal t (.pointer A) (.pointer none)).run P w = .ok A.isNone w := by
  have h : ∀ d, (Op.equalIn (d + 1) t (.pointer A) (.pointer none)).run P w = .ok A.isNone w := fun d => by cases A <;> simp [Op.equalIn, run_underlying ht]
  exact h 9999
theorem OW_eqlNil {x : Operand} {t t' el : TypeId} {A : Option Addr} (ht : P.underlying t = some (.pointer el)) (hx : ev e x = .pointer A) (h : OW P ops Q rest (upd e d (.bool A.isNone)) w) : OW P ops Q (⟨some d, .binOp .eql t x (.const (.pointer none)) t', ty, pos, aft, none⟩ :: rest) e w := by
  refine OW_val (.bool A.isNone) rfl ?_ h
  have hr := run_equal_ptr (w := w) ht A
  have h2 : (binOp .eql t (.pointer A) (.pointer none)).run P w = .ok (.bool A.isNone) w := by
    show Sem.run P (Op.equal t (.pointer A) (.pointer none) >>= fun r => pure (Value.bool r)) w = _
    rw [Sem.run_bind, hr]; rfl
  have hcn : ev e (.const (.pointer none)) = .pointer none := rfl
  simp only [execOp, hx, hcn]
  show Sem.run P ((do eqGuard .eql t x (.const (.pointer none)) (.pointer A) (.pointer none); binOp .eql t (.pointer A) (.pointer none)) >>= fun a => pure (Next.value a)) w = _
  rw [Sem.run_bind]
  show ((binOp .eql t (.pointer A) (.pointer none)).run P w).andThen _ = _
  rw [h2]; rfl
theorem OW_neqNil {x : Operand} {t t' el : TypeId} {A : Option Addr} (ht : P.underlying t = some (.pointer el)) (hx : ev e x = .pointer A) (h : OW P ops Q rest (upd e d (.bool (!A.isNone))) w) : OW P ops Q (⟨some d, .binOp .neq t x (.const (.pointer none)) t', ty, pos, aft, none⟩ :: rest) e w := by
  refine OW_val (.bool (!A.isNone)) rfl ?_ h
  have hr := run_equal_ptr (w := w) ht A
  have h2 : (binOp .neq t (.pointer A) (.pointer none)).run P w = .ok (.bool (!A.isNone)) w := by
    show Sem.run P (Op.equal t (.pointer A) (.pointer none) >>= fun r => pure (Value.bool (!r))) w = _
    rw [Sem.run_bind, hr]; rfl
  have hcn : ev e (.const (.pointer none)) = .pointer none := rfl
  simp only [execOp, hx, hcn]
  show Sem.run P ((do eqGuard .neq t x (.const (.pointer none)) (.pointer A) (.pointer none); binOp .neq t (.pointer A) (.pointer none)) >>= fun a => pure (Next.value a)) w = _
  rw [Sem.run_bind]
  show ((binOp .neq t (.pointer A) (.pointer none)).run P w).andThen _ = _
  rw [h2]; rfl
theorem OW_nilCheck {x : Operand} {ad : Addr} (hx : ev e x = .pointer (some ad)) (h : OW P ops Q rest (upd e d (.pointer (some ad))) w) : OW P ops Q (⟨some d, .nilCheck x, ty, pos, aft, none⟩ :: rest) e w :=
  OW_val _ rfl (by simp only [execOp, hx]; rfl) h
/-- A field's place, in a struct that stands at a block's head. -/
theorem OW_fieldAddr {x : Operand} {t : TypeId} {g f : Nat} {fs : Array Field} {fd : Field} (ht : P.underlying t = some (.struct fs)) (hf : fs[f]? = some fd) (hx : ev e x = .pointer (some ⟨g, 0, none⟩)) (hn : fd.offset = f) (hsz : (fieldPlace ⟨g, 0, none⟩ fd).run P w = .ok ⟨g, f, none⟩ w)
    (h : OW P ops Q rest (upd e d (.pointer (some ⟨g, f, none⟩))) w) : OW P ops Q (⟨some d, .fieldAddr t x f, ty, pos, aft, none⟩ :: rest) e w := by
  refine OW_val _ rfl ?_ h
  simp [execOp, hx, Instr.fieldAt, Instr.sureAddr, run_underlying ht, hf, hsz]
/-- A struct, built. -/
theorem OW_build {t : TypeId} {ps : List (Nat × Operand)} (ps' : List (Nat × Value)) (cs : Array Value) (hr : ∀ w, (Instr.build t ps'.toArray).run P w = .ok (.agg cs) w) (hp : ps.map (fun x => (x.1, ev e x.2)) = ps') (h : OW P ops Q rest (upd e d (.agg cs)) w) :
    OW P ops Q (⟨some d, .build t ps.toArray, ty, pos, aft, none⟩ :: rest) e w := by
  refine OW_val _ rfl ?_ h
  subst hp
  simp only [execOp, Sem.run_bind]
  rw [show (ps.toArray.map fun (x : Nat × Operand) => match x with | (i, x) => (i, ev e x)) = (ps.map fun x => (x.1, ev e x.2)).toArray from by simp, hr w]
  rfl
/-- A string's bytes, in a new row. -/
theorem OW_bytesOf {x : Operand} {t t' el : TypeId} (s : ByteArray) (ht : P.underlying t = some .string) (hd : P.underlying t' = some (.slice el)) (he : P.underlying el = some (.int .u8)) (hx : ev e x = .string s)
    (h : ∀ w' A c, Bs w' A s.data.toList → (∀ ad, A = some ad → w.heap.size ≤ ad.block) → Ext w w' → OW P ops Q rest (upd e d (.slice A s.data.toList.length c)) w') : OW P ops Q (⟨some d, .convert t t' x, ty, pos, aft, none⟩ :: rest) e w := by
  have hlen : s.data.toList.length = s.size := by show s.data.toList.length = s.data.size; rw [Array.length_toList]
  have hr := run_bytes_of_string (P := P) w t t' el s ht hd he
  refine OW_valw (.slice (some ⟨w.heap.size, 0, none⟩) s.size (grownCap w s.size 0 el)) (w.drew.alloc (.cells (bytesRow s (grownCap w s.size 0 el)) el ((bytesRow s (grownCap w s.size 0 el)).size, (bytesRow s (grownCap w s.size 0 el)).size + 1))) rfl ?_ ?_
  · simp only [execOp, hx, Sem.run_bind, hr]; rfl
  · have h' := fun h1 h2 => h (w.drew.alloc (.cells (bytesRow s (grownCap w s.size 0 el)) el ((bytesRow s (grownCap w s.size 0 el)).size, (bytesRow s (grownCap w s.size 0 el)).size + 1))) (some ⟨w.heap.size, 0, none⟩) (grownCap w s.size 0 el) h1 (fun ad ha => by cases ha; exact Nat.le_refl _) h2
    rw [hlen] at h'
    refine h' ?_ ?_ --(fun ad ha => by cases ha; exact Nat.le_refl _) ?_
    · intro j u hu
      refine ⟨_, rfl, ?_⟩
      have hb : (w.drew.alloc (.cells (bytesRow s (grownCap w s.size 0 el)) el ((bytesRow s (grownCap w s.size 0 el)).size, (bytesRow s (grownCap w s.size 0 el)).size + 1))).heap[w.heap.size]? = some (.cells (bytesRow s (grownCap w s.size 0 el)) el ((bytesRow s (grownCap w s.size 0 el)).size, (bytesRow s (grownCap w s.size 0 el)).size + 1)) := by
        show (w.heap.push _)[w.heap.size]? = _
        simp
      have hcell : (w.drew.alloc (.cells (bytesRow s (grownCap w s.size 0 el)) el ((bytesRow s (grownCap w s.size 0 el)).size, (bytesRow s (grownCap w s.size 0 el)).size + 1))).cell? ((⟨w.heap.size, 0, none⟩ : Addr).add j) = (bytesRow s (grownCap w s.size 0 el))[j]? := by
        rw [show ((⟨w.heap.size, 0, none⟩ : Addr).add j) = ⟨w.heap.size, j, none⟩ by unfold Addr.add; split <;> simp_all]
        exact cell_of_row _ _ _ _ _ _ hb
      rw [hcell]
      have hj : j < s.data.toList.length := by have := (List.getElem?_eq_some_iff.1 hu).1; simpa using this
      unfold bytesRow
      rw [Array.getElem?_append_left (by simpa using hj)]
      rw [← hu]
      simp
      rfl
    · exact ⟨rfl, rfl, rfl, by show w.heap.size ≤ (w.heap.push _).size; simp, fun k hk => by show (w.heap.push _)[k]? = _; rw [Array.getElem?_push, if_neg (by omega)]⟩
/-- A string of some bytes. -/
theorem OW_strOf {x : Operand} {t t' el : TypeId} {A : Option Addr} {l : List UInt8} {c : Nat} (ht : P.underlying t = some (.slice el)) (he : P.underlying el = some (.int .u8)) (hd : P.underlying t' = some .string) (hb : Bs w A l) (hx : ev e x = .slice A l.length c)
    (h : OW P ops Q rest (upd e d (.string ⟨l.toArray⟩)) w) : OW P ops Q (⟨some d, .convert t t' x, ty, pos, aft, none⟩ :: rest) e w := by
  refine OW_val _ rfl ?_ h
  have hr : (convert t t' (.slice A l.length c)).run P w = .ok (.string ⟨l.toArray⟩) w := by
    cases A with
    | some ad => exact run_convert_bytes_back w t t' el ad c l ht he hd (fun j hj => by
        obtain ⟨ad', ha, hc⟩ := hb.at_ (j := j) hj
        cases ha
        exact hc)
    | none =>
      have hl : l = [] := by
        cases l with
        | nil => rfl
        | cons b r => obtain ⟨ad, ha, _⟩ := hb 0 (bv b) rfl; cases ha
      subst hl
      rw [run_convert_bytes_string w t t' el none _ c ht he hd]
      rfl
  simp only [execOp, hx, Sem.run_bind, hr]; rfl
/-- A row behind a pointer to an array, whole. -/
structure SlP (P : Program) (t : TypeId) (n : Nat) : Prop where
  run : ∀ w g, (Instr.sliceAt t (.pointer (some ⟨g, 0, none⟩)) none none none).run P w = .ok (.slice (some ⟨g, 0, none⟩) n n) w
theorem OW_sliceP {x : Operand} {t : TypeId} {g n : Nat} (hr : SlP P t n) (hx : ev e x = .pointer (some ⟨g, 0, none⟩)) (h : OW P ops Q rest (upd e d (.slice (some ⟨g, 0, none⟩) n n)) w) : OW P ops Q (⟨some d, .slice t x none none none, ty, pos, aft, none⟩ :: rest) e w :=
  OW_val _ rfl (by simp only [execOp, hx, Option.map, Sem.run_bind, hr.run w g]; rfl) h
theorem OW_box {t : TypeId} {x : Operand} (v : Value) (hx : ev e x = v) (h : ∀ w' g, Blk w' g t v.cells → w.heap.size ≤ g → g < w'.heap.size → Ext w w' → OW P ops Q rest (upd e d (.pointer (some ⟨g, 0, none⟩))) w') : OW P ops Q (⟨some d, .box t x, ty, pos, aft, none⟩ :: rest) e w := by
  refine OW_valw (.pointer (some ⟨w.heap.size, 0, none⟩)) (w.alloc (.cells v.cells t)) rfl ?_ (h _ w.heap.size (Blk.new w t _) (Nat.le_refl _) (by simp) (Ext.alloc' w _))
  simp only [execOp, hx, Instr.box, newVar, newRow]
  rfl
/-- A closure, or a function's value, called. -/
theorem OW_callF {f : FuncId} {fn : Func} {x : Operand} {args : List Operand} {args' : List Value} {caps : List Value} {tys : Array TypeId} {dst : Option Tmp} {R : Ending → World → Prop} (hf : P.funcs[f]? = some fn) (hn : (fn.name == "runtime.NumGoroutine") = false) (hb : fn.body.isNone = false)
    (hx : ev e x = .func (.func f) #[] caps.toArray) (hc : Calls P f (args' ++ caps).toArray w R) (ha : args.map (ev e) = args') (h : ∀ en w', R en w' → ∃ v, en = .returned v ∧ OW P ops Q rest (put e dst v) w') :
    OW P ops Q (⟨dst, .call { callee := .value x, args := args.toArray, argTypes := tys }, ty, pos, aft, none⟩ :: rest) e w := by
  refine OW_op rfl ?_
  unfold opW
  have h1 : (callFunc f (args' ++ caps).toArray).run P w = .ok (.enter f (args' ++ caps).toArray) w := by
    simp only [callFunc, program]
    show Sem.run P (match P.funcs[f]? with | none => _ | some fn => _) w = _
    simp only [hf, hn, hb]
    rfl
  have h2 : (execOp (ev e) ⟨dst, .call { callee := .value x, args := args.toArray, argTypes := tys }, ty, pos, aft, none⟩).run P w = .ok (.enter f (args' ++ caps).toArray) w := by
    subst ha
    simp only [execOp, resolve, hx, Deferred.ofValue]
    simpa [invoke] using h1
  rw [h2]
  exact ⟨rfl, hc.mono h⟩
/-- The same, and which blocks have turned. -/
theorem OW_appendK {x y : Operand} {t el : TypeId} {z : Value} {b : Nat} {base : Nat} {A A' : Option Addr} {n c m c' : Nat} {xs news : List Value} (ht : P.underlying t = some (.slice el)) (hinfo : (P.info? el).map (fun i => (i.zero, i.size, i.bytes)) = some (some z, 1, b)) (hz : z.cells.size = 1)
    (hx : ev e x = .slice A n c) (hy : ev e y = .slice A' m c') (hown : w.ownsRow base el 1 (.slice A n c) n xs) (hrd : Rd w A' news) (hl : news.length = m) (h1 : ∀ u ∈ news, u.oneCell' = true)
    (hm : n + m ≤ maxLen) (hb : (n + m) * b ≤ 140737488355328) (hbase : base ≤ w.heap.size)
    (h : ∀ w' A2 c2, w'.ownsRow base el 1 (.slice A2 (n + m) c2) (n + m) (xs ++ news) → w.grownBy w' (Value.ownBlock (.slice A n c)) → (Value.ownBlock (.slice A2 (n + m) c2) = Value.ownBlock (.slice A n c) ∨ Value.ownBlock (.slice A2 (n + m) c2) = some w.heap.size) → OW P ops Q rest (upd e d (.slice A2 (n + m) c2)) w') :
    OW P ops Q (⟨some d, .call { callee := .builtin .append, args := #[x, y], argTypes := #[t, t] }, ty, pos, aft, none⟩ :: rest) e w := by
  obtain ⟨i0, hi, hz1, h2, h3⟩ := info_parts hinfo
  have step : ∃ v' w', (Builtin.append_ #[t, t] ty #[.slice A n c, .slice A' m c']).run P w = .ok v' w' ∧ w'.ownsRow base el 1 v' (n + m) (xs ++ news) ∧ w.grownBy w' (Value.ownBlock (.slice A n c)) ∧ (v'.ownBlock = Value.ownBlock (.slice A n c) ∨ v'.ownBlock = some w.heap.size) := by
    cases A' with
    | none =>
      have hn0 : news = [] := by
        cases news with
        | nil => rfl
        | cons u r => obtain ⟨ad, ha, _⟩ := hrd 0 u rfl; cases ha
      subst hn0
      have hm0 : m = 0 := by simpa using hl.symm
      subst hm0
      refine ⟨.slice A n c, w, ?_, by simpa using hown, World.grownBy.refl w _, .inl rfl⟩
      rcases hown.2 with ⟨h', h0⟩ | ⟨g, cap, cur, hv, _, _, hnc, _⟩
      · injection h' with hA _ hc
        subst hA; subst h0; subst hc
        simp [Builtin.append_, run_underlying ht, sizeOf, typeInfo, hi, Builtin.lenOf, Builtin.firstCells]
      · injection hv with hA _ hc
        subst hA; subst hc
        simp [Builtin.append_, run_underlying ht, sizeOf, typeInfo, hi, Builtin.lenOf, Builtin.firstCells, hnc, storeCells]
    | some ad =>
      obtain ⟨v', w', hrun, g1, g2, _, g3⟩ := run_append_own_at (P := P) w base t ty el i0 z 1 b ht hi hz1 h2 h3 hz (by decide) (.slice A n c) n xs hown ad m c' news (by simpa using hl)
        (fun j u hu => by obtain ⟨ad', ha, hc⟩ := hrd j u hu; cases ha; exact hc) h1 hm hb hbase
      exact ⟨v', w', hrun, g1, g2, g3⟩
  obtain ⟨v', w', hrun, g1, g2, g3⟩ := step
  have hform : ∃ A2 c2, v' = .slice A2 (n + m) c2 := by
    rcases g1.2 with ⟨h', h0⟩ | ⟨g, cap, cur, hv, _⟩
    · exact ⟨none, 0, by rw [h', h0]⟩
    · exact ⟨_, _, hv⟩
  obtain ⟨A2, c2, rfl⟩ := hform
  refine OW_valw (.slice A2 (n + m) c2) w' rfl ?_ (h w' A2 c2 g1 g2 g3)
  simp [execOp, resolve, invoke, builtin, hx, hy, hrun]
/-- A field's place, by the run itself. -/
theorem OW_fieldF {x : Operand} {t : TypeId} {g f : Nat} (hr : Fld P t f) (hx : ev e x = .pointer (some ⟨g, 0, none⟩))
    (h : OW P ops Q rest (upd e d (.pointer (some ⟨g, f, none⟩))) w) : OW P ops Q (⟨some d, .fieldAddr t x f, ty, pos, aft, none⟩ :: rest) e w :=
  OW_val _ rfl (by simp only [execOp, hx, Sem.run_bind, hr.run w g]; rfl) h
end
end Go.Proofs.Ytdpomchhbbopbaa

/- Whole arrays and structs: made, read, written, given back; the array behind a slice. No program in sight. -/
namespace Go.Proofs.Ytdpomchhbbopbaa
open Go Go.RowKit
set_option linter.unusedVariables false
/-- A row or a struct of n cells, and its zero. -/
structure AggT (P : Program) (t : TypeId) (n : Nat) (zs : List Value) : Prop where
  row : ∃ d, P.underlying t = some d ∧ d.isRow = true
  size : (P.info? t).map (·.size) = some n
  zero : ∀ w, (zeroValue t).run P w = .ok (.agg zs.toArray) w
theorem addr0 (g j : Nat) : (⟨g, 0, none⟩ : Addr).add j = ⟨g, j, none⟩ := by unfold Addr.add; split <;> simp_all
theorem Blk.range {w : World} {g : Nat} {T : TypeId} {cs : List Value} (h : Blk w g T cs.toArray) : w.rangeAt g 0 cs := fun j v hv => by
  rw [Nat.zero_add, h.cell]; simpa using hv
theorem Rd.range {w : World} {A : Addr} {cs : List Value} (h : Rd w (some A) cs) (hs : A.spot = none) : w.rangeAt A.block A.off cs := fun j v hv => by
  obtain ⟨ad, ha, hc⟩ := h j v hv
  cases ha
  rw [← Addr.add_mid]
  have : A = ⟨A.block, A.off, none⟩ := by cases A; simp at hs; subst hs; rfl
  rw [← this]; exact hc
section
variable {P : Program} {ops : Array Oper} {Q : Exit → (Nat → Value) → World → Prop} {rest : List Oper} {e : Nat → Value} {w : World} {d : Tmp} {ty : TypeId} {pos : String} {aft : Array Edge}
theorem OW_allocA {t : TypeId} {n : Nat} {zs : List Value} (ht : AggT P t n zs) (h : ∀ w' g, Blk w' g t zs.toArray → w.heap.size ≤ g → g < w'.heap.size → Ext w w' → OW P ops Q rest (upd e d (.pointer (some ⟨g, 0, none⟩))) w') : OW P ops Q (⟨some d, .alloc t, ty, pos, aft, none⟩ :: rest) e w := by
  refine OW_valw (.pointer (some ⟨w.heap.size, 0, none⟩)) (w.alloc (.cells zs.toArray t)) rfl ?_ (h _ w.heap.size (Blk.new w t _) (Nat.le_refl _) (by simp) (Ext.alloc' w _))
  have hr : (Instr.alloc t true (.tuple #[])).run P w = .ok (.pointer (some ⟨w.heap.size, 0, none⟩)) (w.alloc (.cells zs.toArray t)) := by
    unfold Instr.alloc
    rw [Sem.run_bind, ht.zero w]
    rfl
  simp only [execOp, Sem.run_bind, hr]; rfl
theorem OW_loadA {x : Operand} {t : TypeId} {n b o : Nat} {zs : List Value} (ht : AggT P t n zs) (hx : ev e x = .pointer (some ⟨b, o, none⟩)) (cs : List Value) (hl : cs.length = n) (hc : w.rangeAt b o cs)
    (h : OW P ops Q rest (upd e d (.agg cs.toArray)) w) : OW P ops Q (⟨some d, .load t x, ty, pos, aft, none⟩ :: rest) e w := by
  obtain ⟨td, hu, hd⟩ := ht.row
  refine OW_val _ rfl ?_ h
  have hr := run_loadAt_mid (P := P) w b o t cs td hc hu hd (by rw [ht.size, hl])
  simp only [execOp, hx, Sem.run_bind, hr]; rfl
/-- A whole array or struct into a block of its own. -/
theorem OW_storeA {x y : Operand} {t T : TypeId} {n g : Nat} {zs : List Value} (ht : AggT P t n zs) (hx : ev e x = .pointer (some ⟨g, 0, none⟩)) (cs : List Value) (hy : ev e y = .agg cs.toArray) (hl : cs.length = n) {old : Array Value} (hb : Blk w g T old) (ho : old.size = n) (h1 : ∀ v ∈ cs, v.oneCell' = true)
    (h : ∀ w', Blk w' g T cs.toArray → w.grownBy w' (some g) → OW P ops Q rest e w') : OW P ops Q (⟨none, .store t x y, ty, pos, aft, none⟩ :: rest) e w := by
  refine OW_unit (w.setRow g cs.toArray) rfl rfl ?_ (h _ ?_ ?_)
  · have hr := run_storeVar_row (P := P) w g T t old cs.toArray hb (by rw [ht.size]; simp [hl]) (by simp [ho, hl]) (all_oneCell_toArray h1)
    simp only [execOp, hx, hy, Instr.storeAt, Instr.sureAddr, Sem.run_bind, Sem.run_pure, Result.andThen_ok, hr]
  · exact setRow_heap w g old cs.toArray T (0, 0) hb
  · exact ⟨rfl, rfl, rfl, by simp, fun k hk hn => setRow_other w g k _ (fun hh => hn (by rw [hh]))⟩
theorem OW_alloc1 {t : TypeId} (z : Value) (hz : ∀ w, (zeroValue t).run P w = .ok z w) (h : ∀ w' g, Blk w' g t z.cells → w.heap.size ≤ g → g < w'.heap.size → Ext w w' → OW P ops Q rest (upd e d (.pointer (some ⟨g, 0, none⟩))) w') : OW P ops Q (⟨some d, .alloc t, ty, pos, aft, none⟩ :: rest) e w := by
  refine OW_valw (.pointer (some ⟨w.heap.size, 0, none⟩)) (w.alloc (.cells z.cells t)) rfl ?_ (h _ w.heap.size (Blk.new w t _) (Nat.le_refl _) (by simp) (Ext.alloc' w _))
  have hr : (Instr.alloc t true (.tuple #[])).run P w = .ok (.pointer (some ⟨w.heap.size, 0, none⟩)) (w.alloc (.cells z.cells t)) := by
    unfold Instr.alloc
    rw [Sem.run_bind, hz w]
    rfl
  simp only [execOp, Sem.run_bind, hr]; rfl
theorem OW_mkFunc {f : FuncId} {caps : List Operand} (vs : List Value) (hv : caps.map (ev e) = vs) (h : OW P ops Q rest (upd e d (.func (.func f) #[] vs.toArray)) w) : OW P ops Q (⟨some d, .makeFunc (.func f) #[] caps.toArray, ty, pos, aft, none⟩ :: rest) e w := by
  refine OW_val _ rfl ?_ h
  subst hv
  simp [execOp, Instr.makeFunc]
/-- The array behind a slice that is long enough. -/
structure ArrP (P : Program) (t : TypeId) (n : Nat) : Prop where
  row : ∃ el, P.underlying t = some (.array n el)
theorem OW_arrP {x : Operand} {t : TypeId} {n m c : Nat} {A : Option Addr} (ht : ArrP P t n) (hx : ev e x = .slice A m c) (hm : n ≤ m) (h : OW P ops Q rest (upd e d (.pointer A)) w) : OW P ops Q (⟨some d, .sliceToArrayPointer t x, ty, pos, aft, none⟩ :: rest) e w := by
  obtain ⟨el, hu⟩ := ht.row
  refine OW_val _ rfl ?_ h
  have hr : (Instr.arrayAt t (.slice A m c)).run P w = .ok (.pointer A) w := by
    unfold Instr.arrayAt
    rw [Sem.run_bind, run_underlying hu w]
    have : ¬ m < n := by omega
    simp [this]
  simp only [execOp, hx, Sem.run_bind, hr]; rfl
end
/-- A result that is a variable of many cells. -/
theorem bodyE_retc {P : Program} {fn : Func} {R : Ending → World → Prop} {e : Nat → Value} {w : World} {t : Tmp} {ty : TypeId} {n b o : Nat} {zs : List Value} (hr : fn.results = #[.cell t ty]) (ht : AggT P ty n zs) (hv : e t = .pointer (some ⟨b, o, none⟩)) (cs : List Value) (hl : cs.length = n) (hc : w.rangeAt b o cs) (hR : R (.returned (.agg cs.toArray)) w) : bodyE P fn R .ret e w := by
  obtain ⟨td, hu, hd⟩ := ht.row
  unfold bodyE
  refine ⟨.agg cs.toArray, fun tmps htm => ?_, hR⟩
  have hld := run_loadVar_mid (P := P) w b o ty cs td hc hu hd (by rw [ht.size, hl])
  simp [results, hr, htm, hv, asAddr, hld]
theorem bodyE_retc2 {P : Program} {fn : Func} {R : Ending → World → Prop} {e : Nat → Value} {w : World} {t u : Tmp} {ty : TypeId} {n b o : Nat} {zs : List Value} (hr : fn.results = #[.cell t ty, .tmp u]) (ht : AggT P ty n zs) (hv : e t = .pointer (some ⟨b, o, none⟩)) (cs : List Value) (v : Value) (hu2 : e u = v) (hl : cs.length = n) (hc : w.rangeAt b o cs) (hR : R (.returned (.tuple #[.agg cs.toArray, v])) w) : bodyE P fn R .ret e w := by
  obtain ⟨td, hu, hd⟩ := ht.row
  unfold bodyE
  refine ⟨.tuple #[.agg cs.toArray, v], fun tmps htm => ?_, hR⟩
  have hld := run_loadVar_mid (P := P) w b o ty cs td hc hu hd (by rw [ht.size, hl])
  simp [results, hr, htm, hv, hu2, asAddr, hld]
end Go.Proofs.Ytdpomchhbbopbaa

/- What the frame of a law's proof needs: from readings to this claim's own facts. -/
namespace Go.Proofs.Ytdpomchhbbopbaa
open Go.ChangeShapes Go.WideShapes Go.ChangeAt Go.RowKit
set_option linter.unusedVariables false
theorem nat_u8 {n : Int} (h : (Lit.int .u8 n).wf = true) : ∃ m : Nat, n = (m : Int) ∧ m < 256 := by
  have := bounds_u8 h; exact ⟨n.toNat, by omega, by omega⟩
theorem nat_u32 {n : Int} (h : (Lit.int .u32 n).wf = true) : ∃ m : Nat, n = (m : Int) ∧ m < 4294967296 := by
  have := bounds_u32 h; exact ⟨n.toNat, by omega, by omega⟩
theorem nat_u64 {n : Int} (h : (Lit.int .u64 n).wf = true) : ∃ m : Nat, n = (m : Int) ∧ m < 18446744073709551616 := by
  have := bounds_u64 h; exact ⟨n.toNat, by omega, by omega⟩
theorem bs_of_cells {w : World} {a : Addr} {len : Nat} {zs : List Int} (hz : len ≤ zs.length) (hcell : ∀ i, i < zs.length → w.cell? (a.add i) = some (.int .u8 (zs.getD i 0))) (hwz : ∀ n ∈ zs, (Lit.int .u8 n).wf = true) :
    ∃ l : List UInt8, l.length = len ∧ Bs w (some a) l := by
  refine ⟨(zs.take len).map fun n => UInt8.ofNat n.toNat, by simp; omega, fun j u hu => ⟨a, rfl, ?_⟩⟩
  rw [List.getElem?_map, List.getElem?_map, List.getElem?_take] at hu
  split at hu
  · rename_i hj
    have hj' : j < zs.length := by omega
    rw [List.getElem?_eq_getElem hj'] at hu
    simp only [Option.map_some, Option.some.injEq] at hu
    rw [hcell j hj', ← hu, List.getD_eq_getElem?_getD, List.getElem?_eq_getElem hj']
    have hb := bounds_u8 (hwz zs[j] (List.getElem_mem hj'))
    simp only [Option.getD_some, bv]
    congr 2
    rw [UInt8.toNat_ofNat']
    omega
  · cases hu
theorem open_bytes {H : Type} {enc : TypeId × Value → H} {P : Program} {w : World} {t e : TypeId} {v : Value} {d : DataW H} {ps : List MemPlace} {r : Reach} {b0 : Nat} (ht : P.underlying t = some (.slice e)) (he : P.underlying e = some (.int .u8)) (hc : P.cellsOf e = 1)
    (hv : Value.okWide P w r b0 t v) (h : DataW.Trod enc P w 0 (fun _ => true) true t v d ps) : ∃ A c l, v = .slice A l.length c ∧ Bs w A l ∧ l.length ≤ c := by
  obtain ⟨a0, len0, cap0, rfl⟩ := okWide_slice ht hv
  obtain ⟨fuel, hf⟩ := h
  rcases open_ints ht he hc hf with ⟨hcs, _⟩ | ⟨x, l, c, zs, hcs, _, hl, hm, hz, _, hcell, hwz⟩
  · simp [Value.cells] at hcs
    obtain ⟨rfl, rfl, rfl⟩ := hcs
    exact ⟨none, 0, [], rfl, Bs.nil _ _, Nat.le_refl _⟩
  · simp [Value.cells] at hcs
    obtain ⟨rfl, rfl, rfl⟩ := hcs
    obtain ⟨l', hl', hb⟩ := bs_of_cells (len := len0) (by simp at hz; omega) hcell hwz
    subst hl'
    exact ⟨some x, cap0, l', rfl, hb, hl⟩
theorem ownP : ownKnob Try.prog.godebug = none := by kernel_rfl
theorem laidP : laidOutB Try.prog = true := by kernel_rfl
end Go.Proofs.Ytdpomchhbbopbaa

/- Data that comes in: what its cells read as, type by type; loads of whole values at any place. No program in sight. -/
namespace Go.Proofs.Ytdpomchhbbopbaa
open Go Go.RowKit Go.ChangeShapes Go.WideShapes
set_option linter.unusedVariables false
theorem addr_add_off (g o j : Nat) : (⟨g, o, none⟩ : Addr).add j = ⟨g, o + j, none⟩ := by unfold Addr.add; split <;> simp_all
/-- Cells that stand one behind the other. -/
def At (w : World) (ad : Addr) (cs : List Value) : Prop := ∀ (j : Nat) (u : Value), cs[j]? = some u → w.cell? (ad.add j) = some u
theorem At.ext {w w' : World} {ad : Addr} {cs : List Value} (h : At w ad cs) (hx : Ext w w') : At w' ad cs := fun j u hu => hx.cell' (h j u hu)
theorem At.keeps {w w' : World} {ad : Addr} {cs : List Value} {S : Nat → Prop} (h : At w ad cs) (hk : Keeps w w' S) (hn : ¬ S ad.block) : At w' ad cs := fun j u hu => hk.cell (h j u hu) (by rw [addr_add_block]; exact hn)
theorem At.get {w : World} {ad : Addr} {cs : List Value} (h : At w ad cs) {j : Nat} (hj : j < cs.length) : w.cell? (ad.add j) = some cs[j] := h j _ (List.getElem?_eq_getElem hj)
theorem Blk.atL {w : World} {g : Nat} {T : TypeId} {cs : List Value} (h : Blk w g T cs.toArray) : At w ⟨g, 0, none⟩ cs := fun j v hv => by
  rw [addr0, h.cell]; simpa using hv
theorem At.part {w : World} {ad : Addr} {cs : List Value} (h : At w ad cs) (o n : Nat) : At w (ad.add o) ((cs.drop o).take n) := fun j v hv => by
  rw [List.getElem?_take] at hv
  split at hv
  · rw [List.getElem?_drop] at hv
    rw [addr_add_add]
    exact h _ _ hv
  · cases hv
theorem At.rd {w : World} {ad : Addr} {cs : List Value} (h : At w ad cs) : Rd w (some ad) cs := fun j u hu => ⟨ad, rfl, h j u hu⟩
theorem Rd.atL {w : World} {ad : Addr} {cs : List Value} (h : Rd w (some ad) cs) : At w ad cs := fun j u hu => by
  obtain ⟨ad', ha, hc⟩ := h j u hu
  cases ha
  exact hc
theorem At.of_own {w : World} {base g n c : Nat} {T : TypeId} {xs : List Value} (h : w.ownsRow base T 1 (.slice (some ⟨g, 0, none⟩) n c) n xs) : At w ⟨g, 0, none⟩ xs := (own_rd h).atL
section
variable {P : Program} {ops : Array Oper} {Q : Exit → (Nat → Value) → World → Prop} {rest : List Oper} {e : Nat → Value} {w : World} {d : Tmp} {ty : TypeId} {pos : String} {aft : Array Edge}
theorem run_loadX {t : TypeId} {n : Nat} {zs : List Value} (ht : AggT P t n zs) {ad : Addr} (cs : List Value) (hl : cs.length = n) (hc : At w ad cs) : (loadVar t ad).run P w = .ok (.agg cs.toArray) w := by
  obtain ⟨td, hu, hd⟩ := ht.row
  have hld : (loadCells ad cs.length).run P w = .ok cs.toArray w := run_loadCells_list (P := P) w ad cs hc
  have hi := ht.size
  cases hq : P.info? t with
  | none => simp [hq] at hi
  | some i =>
    have hs : i.size = cs.length := by simpa [hq, hl] using hi
    have hagg : (isAgg t).run P w = .ok true w := by
      unfold isAgg
      rw [Sem.run_bind, run_underlying hu w]
      cases td <;> simp_all
    simp [loadVar, Sem.run_bind, hagg, sizeOf, typeInfo, hq, hs, hld]
/-- A whole value at any place. -/
theorem OW_loadX {x : Operand} {t : TypeId} {n : Nat} {ad : Addr} {zs : List Value} (ht : AggT P t n zs) (hx : ev e x = .pointer (some ad)) (cs : List Value) (hl : cs.length = n) (hc : At w ad cs)
    (h : OW P ops Q rest (upd e d (.agg cs.toArray)) w) : OW P ops Q (⟨some d, .load t x, ty, pos, aft, none⟩ :: rest) e w := by
  refine OW_val _ rfl ?_ h
  have hr : (Instr.loadAt t (.pointer (some ad))).run P w = .ok (.agg cs.toArray) w := by
    simp only [Instr.loadAt, Instr.sureAddr, Sem.run_bind, Sem.run_pure, Result.andThen_ok, run_loadX ht cs hl hc]
  simp only [execOp, hx, Sem.run_bind, hr]; rfl
/-- A field's place, anywhere. -/
structure FldO (P : Program) (t : TypeId) (f o : Nat) : Prop where
  run : ∀ w a, (Instr.fieldAt t (.pointer (some a)) f).run P w = .ok (.pointer (some (Addr.add a o))) w
theorem OW_fieldO {x : Operand} {t : TypeId} {ad : Addr} {f o : Nat} (hr : FldO P t f o) (hx : ev e x = .pointer (some ad))
    (h : OW P ops Q rest (upd e d (.pointer (some (ad.add o)))) w) : OW P ops Q (⟨some d, .fieldAddr t x f, ty, pos, aft, none⟩ :: rest) e w :=
  OW_val _ rfl (by simp only [execOp, hx, Sem.run_bind, hr.run w ad]; rfl) h
/-- Elements of many cells. -/
structure ElT (P : Program) (t : TypeId) (n : Nat) : Prop where
  size : (P.info? t).map (·.size) = some n
theorem OW_idxN {x y : Operand} {t el : TypeId} {ad : Addr} {n c m : Nat} {k : IntKind} {j : Int} (ht : P.underlying t = some (.slice el)) (hel : ElT P el m) (hx : ev e x = .slice (some ad) n c) (hy : ev e y = .int k j) (jN : Nat) (hj : j = (jN : Int)) (hn : jN < n)
    (h : OW P ops Q rest (upd e d (.pointer (some (ad.add (jN * m))))) w) : OW P ops Q (⟨some d, .indexAddr t x y, ty, pos, aft, none⟩ :: rest) e w := by
  refine OW_val _ rfl ?_ h
  have hs := hel.size
  subst hj
  cases hi : P.info? el with
  | none => simp [hi] at hs
  | some i =>
    have hs : i.size = m := by simpa [hi] using hs
    simp [execOp, hx, hy, Instr.indexAt, asIntOf, run_underlying ht, sizeOf, typeInfo, hi, hs, hn]
end

theorem choose_list {α : Type} {p : Nat → α → Prop} : ∀ (n : Nat), (∀ i, i < n → ∃ b, p i b) → ∃ l : List α, l.length = n ∧ ∀ i (hi : i < l.length), p i l[i]
  | 0, _ => ⟨[], rfl, fun i hi => absurd hi (Nat.not_lt_zero _)⟩
  | n + 1, h => by
    obtain ⟨l, hl, hp⟩ := choose_list n (fun i hi => h i (by omega))
    obtain ⟨b, hb⟩ := h n (by omega)
    refine ⟨l ++ [b], by simp [hl], fun i hi => ?_⟩
    by_cases hn : i < l.length
    · rw [List.getElem_append_left hn]; exact hp i hn
    · have : i = n := by simp at hi; omega
      subst this
      rw [List.getElem_append_right (by omega)]
      simpa [hl] using hb
/-- Nothing that is read takes more than there is. -/
def WOk {H : Type} (P : Program) (t : TypeId) (d : DataW H) : Prop := ∀ n ∈ d.weights P t, n ≤ reachBytes
theorem wAll_mem {H : Type} {P : Program} {e : TypeId} : ∀ {l : List (DataW H)} {d : DataW H}, d ∈ l → ∀ n ∈ d.weights P e, n ∈ DataW.weightsAll P e l
  | x :: l, d, h, n, hn => by
    simp only [DataW.weightsAll, List.mem_append]
    rcases List.mem_cons.1 h with rfl | h
    · exact .inl hn
    · exact .inr (wAll_mem h n hn)
theorem wEach_mem {H : Type} {P : Program} : ∀ {ts : List TypeId} {l : List (DataW H)} {i : Nat} {t : TypeId} {d : DataW H}, ts[i]? = some t → l[i]? = some d → ∀ n ∈ d.weights P t, n ∈ DataW.weightsEach P ts l
  | t' :: ts, d' :: l, 0, t, d, h1, h2, n, hn => by
    simp at h1 h2
    subst h1; subst h2
    simp only [DataW.weightsEach, List.mem_append]
    exact .inl hn
  | t' :: ts, d' :: l, i + 1, t, d, h1, h2, n, hn => by
    simp only [DataW.weightsEach, List.mem_append]
    exact .inr (wEach_mem (i := i) (by simpa using h1) (by simpa using h2) n hn)
  | [], _, i, t, d, h1, _, _, _ => by simp at h1
  | _ :: _, [], i, t, d, _, h2, _, _ => by simp at h2
theorem wok_each {H : Type} {P : Program} {ts : List TypeId} {l : List (DataW H)} (h : (DataW.weightsEach P ts l).all (· ≤ reachBytes) = true) (i : Nat) {t : TypeId} {d : DataW H} (h1 : ts[i]? = some t) (h2 : l[i]? = some d) : WOk P t d := fun n hn => by
  have := List.all_eq_true.1 h n (wEach_mem h1 h2 n hn)
  simpa using this
/-- What some data's cells read as. -/
structure KD (P : Program) (t : TypeId) (α : Type) where
  n : Nat
  hn : P.cellsOf t = n
  R : World → List Value → α → Prop
  ext : ∀ {w w' : World} {cs : List Value} {a : α}, Ext w w' → R w cs a → R w' cs a
  opn : ∀ {H : Type} {enc : TypeId × Value → H} {w : World} {fuel : Nat} {cs : List Value} {x : DataW H × List MemPlace}, DataW.trod enc P w 0 (fun _ => true) true fuel t cs = some x → WOk P t x.1 → ∃ a, R w cs a
section
variable {P : Program} {t el : TypeId}
def I64 (n : Int) : Prop := -9223372036854775808 ≤ n ∧ n ≤ 9223372036854775807
def kInt (ht : P.underlying t = some (.int .i64)) (hn : P.cellsOf t = 1) : KD P t Int where
  n := 1
  hn := hn
  R := fun _ cs n => cs = [.int .i64 n] ∧ I64 n
  ext := fun _ h => h
  opn := fun h _ => by
    obtain ⟨n, hc, _, hw⟩ := DataW.trod_int ht h
    exact ⟨n, hc, bounds_i64 hw⟩
def kU8 (ht : P.underlying t = some (.int .u8)) (hn : P.cellsOf t = 1) : KD P t UInt8 where
  n := 1
  hn := hn
  R := fun _ cs b => cs = [bv b]
  ext := fun _ h => h
  opn := fun h _ => by
    obtain ⟨n, hc, _, hw⟩ := DataW.trod_int ht h
    obtain ⟨m, rfl, hm⟩ := nat_u8 hw
    refine ⟨UInt8.ofNat m, ?_⟩
    rw [hc]
    simp only [bv]
    congr 3
    rw [UInt8.toNat_ofNat']
    omega
def kBool (ht : P.underlying t = some .bool) (hn : P.cellsOf t = 1) : KD P t Bool where
  n := 1
  hn := hn
  R := fun _ cs b => cs = [.bool b]
  ext := fun _ h => h
  opn := fun h _ => by
    obtain ⟨b, hc, _⟩ := DataW.trod_bool ht h
    exact ⟨b, hc⟩
def kStr (ht : P.underlying t = some .string) (hn : P.cellsOf t = 1) : KD P t ByteArray where
  n := 1
  hn := hn
  R := fun _ cs s => cs = [.string s] ∧ s.data.toList.length ≤ 140737488351232
  ext := fun _ h => h
  opn := fun h hw => by
    obtain ⟨b, hc, rfl, hl⟩ := DataW.trod_string ht h
    exact ⟨b, hc, hw _ (by simp [DataW.weights])⟩
/-- Elements that stand one behind the other, in a slice. -/
def SlR {α : Type} (n : Nat) (R : World → List Value → α → Prop) (w : World) (A : Option Addr) (l : List α) : Prop :=
  ∀ (i : Nat) (hi : i < l.length), ∃ ad ce, A = some ad ∧ ce.length = n ∧ At w (ad.add (i * n)) ce ∧ R w ce l[i]
def kSlice {α : Type} (k : KD P el α) (ht : P.underlying t = some (.slice el)) (hn : P.cellsOf t = 1) (hb : 1 ≤ P.bytesOf el) : KD P t (List α) where
  n := 1
  hn := hn
  R := fun w cs l => ∃ A c, cs = [.slice A l.length c] ∧ l.length ≤ c ∧ c ≤ 140737488351232 ∧ SlR k.n k.R w A l
  ext := fun hx ⟨A, c, h1, h2, h3, h4⟩ => ⟨A, c, h1, h2, h3, fun i hi => by
    obtain ⟨ad, ce, e1, e2, e3, e4⟩ := h4 i hi
    exact ⟨ad, ce, e1, e2, e3.ext hx, k.ext hx e4⟩⟩
  opn := fun {H enc w fuel cs x} h hw => by
    rcases Go.Deep.open_slice ht h with ⟨h0, _⟩ | ⟨a, len, cap, m, n, D, Pl, rfl, _, hl, hm, hmm, rfl, hx⟩
    · exact ⟨[], none, 0, h0, Nat.le_refl _, Nat.zero_le _, fun i hi => absurd hi (Nat.not_lt_zero _)⟩
    · simp only [if_true] at hmm
      have hws : ∀ n ∈ DataW.weights P t (.slice ((List.range len).map D) ((List.range (m - len)).map fun j => D (len + j))), n ≤ reachBytes := hw
      simp only [DataW.weights, ht, List.mem_cons, List.mem_append, List.length_map, List.length_range] at hws
      have hcap : cap ≤ 140737488351232 := by
        have h1 := hws _ (.inl rfl)
        have h2 : len + (m - len) = cap := by omega
        rw [h2] at h1
        have h3 : cap * 1 ≤ cap * P.bytesOf el := Nat.mul_le_mul_left _ hb
        have h4 : cap ≤ reachBytes := by omega
        exact h4
      have key : ∀ i, i < len → ∃ b, ∃ ce, ce.length = k.n ∧ At w (a.add (i * k.n)) ce ∧ k.R w ce b := by
        intro i hi
        obtain ⟨ce, hc, ht'⟩ := hx i (by omega)
        rw [k.hn] at hc
        obtain ⟨_, hcl, hat⟩ := World.cells?_some hc
        obtain ⟨b, hb⟩ := k.opn ht' (fun n hn => hws n (.inr (.inl (wAll_mem (List.mem_map.2 ⟨i, List.mem_range.2 hi, rfl⟩) n hn))))
        refine ⟨b, ce, hcl, fun j u hu => ?_, hb⟩
        have hj : j < ce.length := (List.getElem?_eq_some_iff.1 hu).1
        rw [hat j (by omega), hu]
      obtain ⟨l, hll, hy⟩ := choose_list len key
      refine ⟨l, some a, cap, by rw [hll], by omega, hcap, fun i hi => ?_⟩
      obtain ⟨ce, h1, h2, h3⟩ := hy i hi
      exact ⟨a, ce, rfl, h1, h2, h3⟩
def kBytes (ht : P.underlying t = some (.slice el)) (he : P.underlying el = some (.int .u8)) (hc : P.cellsOf el = 1) (hn : P.cellsOf t = 1) (hb : 1 ≤ P.bytesOf el) : KD P t (List UInt8) where
  n := 1
  hn := hn
  R := fun w cs l => ∃ A c, cs = [.slice A l.length c] ∧ (l.length ≤ c ∧ c ≤ 140737488351232) ∧ Bs w A l
  ext := fun hx ⟨A, c, h1, h2, h3⟩ => ⟨A, c, h1, h2, h3.ext hx⟩
  opn := fun {H enc w fuel cs x} h hw => by
    obtain ⟨l, A, c, h1, h2, h3, h4⟩ := (kSlice (kU8 he hc) ht hn hb).opn h hw
    refine ⟨l, A, c, h1, ⟨h2, h3⟩, fun j u hu => ?_⟩
    have hj : j < l.length := by have := (List.getElem?_eq_some_iff.1 hu).1; simpa using this
    obtain ⟨ad, ce, e1, e2, e3, e4⟩ := h4 j hj
    have e4 : ce = [bv l[j]] := e4
    subst e4
    refine ⟨ad, e1, ?_⟩
    have := e3 0 (bv l[j]) rfl
    rw [addr_add_add] at this
    rw [show j * (kU8 he hc).n + 0 = j by show j * 1 + 0 = j; omega] at this
    rw [this, ← hu, List.getElem?_map, List.getElem?_eq_getElem hj]
    rfl
/-- A row of bytes, by value. -/
def kArr {m : Nat} (ht : P.underlying t = some (.array m el)) (he : P.underlying el = some (.int .u8)) (hc : P.cellsOf el = 1) (hn : P.cellsOf t = m) : KD P t (List UInt8) where
  n := m
  hn := hn
  R := fun w cs l => cs = l.map bv ∧ l.length = m
  ext := fun _ h => h
  opn := fun {H enc w fuel cs x} h _ => by
    obtain ⟨xs, f, _, _, hl, hxs, hall⟩ := DataW.trod_array ht h
    rw [hn] at hl
    have key : ∀ i, i < m → ∃ b : UInt8, cs[i]? = some (bv b) := by
      intro i hi
      have h1 := hall i hi
      rw [hc, Nat.mul_one] at h1
      have hd : (cs.drop i).take 1 = [cs[i]'(by omega)] := by rw [List.drop_eq_getElem_cons (by omega)]; rfl
      rw [hd, List.getElem?_eq_getElem (by omega)] at h1
      obtain ⟨b, hb⟩ := (kU8 he hc).opn h1 (by
        obtain ⟨n, _, hx, _⟩ := DataW.trod_int he h1
        rw [hx]; intro n hn; simp [DataW.weights] at hn)
      have hb : [cs[i]'(by omega)] = [bv b] := hb
      refine ⟨b, ?_⟩
      rw [List.getElem?_eq_getElem (by omega)]
      simpa using hb
    obtain ⟨l, hll, hy⟩ := choose_list m key
    refine ⟨l, ?_, hll⟩
    apply List.ext_getElem?
    intro i
    by_cases hi : i < m
    · rw [hy i (by omega), List.getElem?_map, List.getElem?_eq_getElem (by omega)]; rfl
    · rw [List.getElem?_eq_none (by omega), List.getElem?_eq_none (by simp; omega)]
theorem cut_cons {α : Type} (cs : List α) (o n : Nat) : cs.drop o = (cs.drop o).take n ++ cs.drop (o + n) := by
  have h := (List.take_append_drop n (cs.drop o)).symm
  rwa [List.drop_drop] at h
/-- A struct's parts. -/
theorem kd_parts {H : Type} {enc : TypeId × Value → H} {w : World} {fuel : Nat} {cs : List Value} {x : DataW H × List MemPlace} {fs : Array Field} (ht : P.underlying t = some (.struct fs)) (h : DataW.trod enc P w 0 (fun _ => true) true fuel t cs = some x) (hw : WOk P t x.1) :
    cs.length = P.cellsOf t ∧ ∀ (i : Nat) (f : Field), fs[i]? = some f → ∀ {α : Type} (k : KD P f.type α), ∃ a, k.R w ((cs.drop f.offset).take k.n) a := by
  obtain ⟨xs, n, _, rfl, hl, hxs, hall⟩ := DataW.trod_struct ht h
  have hws : ∀ n ∈ DataW.weights P t (.agg (xs.map (·.1))), n ≤ reachBytes := hw
  simp only [DataW.weights, ht] at hws
  refine ⟨hl, fun i f hf α k => ?_⟩
  have h1 := hall i f hf
  rw [k.hn] at h1
  have hi : i < fs.size := (Array.getElem?_eq_some_iff.1 hf).1
  rw [List.getElem?_eq_getElem (by omega)] at h1
  exact k.opn h1 (fun n hn => hws n (wEach_mem (i := i) (t := f.type) (d := (xs[i]'(by omega)).1) (by rw [List.getElem?_map, Array.getElem?_toList, hf]; rfl) (by rw [List.getElem?_map, List.getElem?_eq_getElem (by omega)]; rfl) n hn))
theorem kd_one {α : Type} {H : Type} {enc : TypeId × Value → H} {w : World} {v : Value} {d : DataW H} {ps : List MemPlace} (k : KD P t α) (h1 : v.cells.toList = [v]) (h : DataW.Trod enc P w 0 (fun _ => true) true t v d ps) (hw : WOk P t d) : ∃ a, k.R w [v] a := by
  obtain ⟨fuel, hf⟩ := h
  rw [h1] at hf
  exact k.opn hf hw
theorem kd_slice {α : Type} {H : Type} {enc : TypeId × Value → H} {w : World} {v : Value} {d : DataW H} {ps : List MemPlace} {r : Reach} {b0 : Nat} (k : KD P t α) (ht : P.underlying t = some (.slice el)) (hv : Value.okWide P w r b0 t v) (h : DataW.Trod enc P w 0 (fun _ => true) true t v d ps) (hw : WOk P t d) : ∃ a, k.R w [v] a := by
  obtain ⟨a, l, c, rfl⟩ := okWide_slice ht hv
  exact kd_one k rfl h hw
theorem kd_str {α : Type} {H : Type} {enc : TypeId × Value → H} {w : World} {v : Value} {d : DataW H} {ps : List MemPlace} {r : Reach} {b0 : Nat} (k : KD P t α) (ht : P.underlying t = some .string) (hv : Value.okWide P w r b0 t v) (h : DataW.Trod enc P w 0 (fun _ => true) true t v d ps) (hw : WOk P t d) : ∃ a, k.R w [v] a := by
  obtain ⟨s, rfl⟩ := okWide_string ht hv
  exact kd_one k rfl h hw
theorem kd_bool {α : Type} {H : Type} {enc : TypeId × Value → H} {w : World} {v : Value} {d : DataW H} {ps : List MemPlace} {r : Reach} {b0 : Nat} (k : KD P t α) (ht : P.underlying t = some .bool) (hv : Value.okWide P w r b0 t v) (h : DataW.Trod enc P w 0 (fun _ => true) true t v d ps) (hw : WOk P t d) : ∃ a, k.R w [v] a := by
  obtain ⟨s, rfl⟩ := okWide_bool ht hv
  exact kd_one k rfl h hw
theorem kd_int {α : Type} {H : Type} {enc : TypeId × Value → H} {w : World} {v : Value} {d : DataW H} {ps : List MemPlace} {r : Reach} {b0 : Nat} {q : IntKind} (k : KD P t α) (ht : P.underlying t = some (.int q)) (hv : Value.okWide P w r b0 t v) (h : DataW.Trod enc P w 0 (fun _ => true) true t v d ps) (hw : WOk P t d) : ∃ a, k.R w [v] a := by
  obtain ⟨s, rfl⟩ := okWide_int ht hv
  exact kd_one k rfl h hw
theorem kd_struct {α : Type} {H : Type} {enc : TypeId × Value → H} {w : World} {v : Value} {d : DataW H} {ps : List MemPlace} {r : Reach} {b0 : Nat} {fs : Array Field} (k : KD P t α) (ht : P.underlying t = some (.struct fs)) (hv : Value.okWide P w r b0 t v) (h : DataW.Trod enc P w 0 (fun _ => true) true t v d ps) (hw : WOk P t d) : ∃ cs a, v = .agg cs.toArray ∧ k.R w cs a := by
  obtain ⟨cs, rfl, hsz⟩ := okWide_struct ht hv
  obtain ⟨fuel, hf⟩ := h
  obtain ⟨a, ha⟩ := k.opn hf hw
  exact ⟨cs.toList, a, by simp, ha⟩
end
end Go.Proofs.Ytdpomchhbbopbaa

/- A number's own bits. No program in sight. -/
namespace Go.Proofs.Ytdpomchhbbopbaa
open Go Go.RowKit
/-- A number's own 64 bits. -/
def u64N (n : Int) : Nat := (n % 18446744073709551616).toNat
theorem u64N_lt (n : Int) : u64N n < 18446744073709551616 := by unfold u64N; omega
theorem wrap_u64I (n : Int) : IntKind.u64.wrap n = (u64N n : Int) := by
  have h : IntKind.u64.wrap n = n % 18446744073709551616 := by simp [IntKind.wrap, IntKind.signed, IntKind.bits]
  rw [h]; unfold u64N; omega
def u32N (n : Int) : Nat := (n % 4294967296).toNat
theorem u32N_lt (n : Int) : u32N n < 4294967296 := by unfold u32N; omega
theorem wrap_u32I (n : Int) : IntKind.u32.wrap n = (u32N n : Int) := by
  have h : IntKind.u32.wrap n = n % 4294967296 := by simp [IntKind.wrap, IntKind.signed, IntKind.bits]
  rw [h]; unfold u32N; omega
/-- Numbers, one behind the other. -/
def numsB (l : List Int) : List UInt8 := (l.map fun n => putL (u64N n) 8).flatten
theorem numsB_length (l : List Int) : (numsB l).length = 8 * l.length := by
  induction l with
  | nil => rfl
  | cons n l ih => simp only [numsB, List.map_cons, List.flatten_cons, List.length_append, putL_length, List.length_cons] at ih ⊢; omega
theorem numsB_snoc (l : List Int) (n : Int) : numsB (l ++ [n]) = numsB l ++ putL (u64N n) 8 := by simp [numsB]
def iv (n : Int) : Value := .int .i64 n
end Go.Proofs.Ytdpomchhbbopbaa

/- SHA-256, plainly: numbers of 32 bits, the schedule, a round, a block, blocks, the end, the tag. No program in sight. -/
namespace Go.Proofs.Ytdpomchhbbopbaa
open Go Go.RowKit
set_option linter.unusedVariables false

/-- A number of 32 bits, as a value. -/
abbrev uv (x : UInt32) : Value := .int .u32 (x.toNat : Int)
theorem u32_lt (x : UInt32) : x.toNat < 4294967296 := x.toNat_lt
theorem uv_add (x y : UInt32) : IntKind.u32.wrap ((x.toNat : Int) + (y.toNat : Int)) = ((x + y).toNat : Int) := by
  rw [show (x.toNat : Int) + (y.toNat : Int) = ((x.toNat + y.toNat : Nat) : Int) by simp, wrap_u32, UInt32.toNat_add]
theorem uv_and (x y : UInt32) : bitsK .and .u32 (x.toNat : Int) (y.toNat : Int) = ((x &&& y).toNat : Int) := by
  rw [and_u32 _ _ (u32_lt x) (u32_lt y), UInt32.toNat_and]
theorem uv_or (x y : UInt32) : bitsK .or .u32 (x.toNat : Int) (y.toNat : Int) = ((x ||| y).toNat : Int) := by
  rw [or_u32 _ _ (u32_lt x) (u32_lt y), UInt32.toNat_or]
theorem uv_xor (x y : UInt32) : bitsK .xor .u32 (x.toNat : Int) (y.toNat : Int) = ((x ^^^ y).toNat : Int) := by
  rw [xor_u32 _ _ (u32_lt x) (u32_lt y), UInt32.toNat_xor]
theorem uv_not (x : UInt32) : bitsK .xor .u32 4294967295 (x.toNat : Int) = ((~~~ x).toNat : Int) := by
  rw [show (4294967295 : Int) = (((~~~ (0 : UInt32)).toNat : Nat) : Int) by rfl, uv_xor]
  congr 2
/-- Moved to the right, to the left. -/
def shU (x : UInt32) (k : Nat) : UInt32 := UInt32.ofNat (x.toNat / 2 ^ k)
def slU (x : UInt32) (k : Nat) : UInt32 := UInt32.ofNat (x.toNat * 2 ^ k)
theorem shU_nat (x : UInt32) (k : Nat) : (shU x k).toNat = x.toNat / 2 ^ k := by
  unfold shU
  rw [UInt32.toNat_ofNat']
  exact Nat.mod_eq_of_lt (Nat.lt_of_le_of_lt (Nat.div_le_self _ _) (u32_lt x))
theorem slU_nat (x : UInt32) (k : Nat) : (slU x k).toNat = x.toNat * 2 ^ k % 4294967296 := by
  unfold slU
  rw [UInt32.toNat_ofNat']
theorem uv_shr (x : UInt32) (b : Int) (k : Nat) (hb : b = (k : Int)) (hk : k ≤ 32) : (x.toNat : Int).fdiv (2 ^ (min b.toNat IntKind.u32.bits)) = ((shU x k).toNat : Int) := by
  subst hb
  rw [shU_nat, show min ((k : Int)).toNat IntKind.u32.bits = k by simp [IntKind.bits]; omega]
  have := fdiv_nat x.toNat (2 ^ k)
  simpa using this
theorem uv_shl (x : UInt32) (b : Int) (k : Nat) (hb : b = (k : Int)) (hk : k ≤ 32) : IntKind.u32.wrap ((x.toNat : Int) * 2 ^ (min b.toNat IntKind.u32.bits)) = ((slU x k).toNat : Int) := by
  subst hb
  rw [slU_nat, show min ((k : Int)).toNat IntKind.u32.bits = k by simp [IntKind.bits]; omega]
  have := wrap_u32 (x.toNat * 2 ^ k)
  simpa using this
/-- Turned. -/
def rotU (x : UInt32) (k : Nat) : UInt32 := UInt32.ofNat (rotS x.toNat k)
theorem rotU_nat (x : UInt32) {k : Nat} (hk : k ≤ 32) : (rotU x k).toNat = rotS x.toNat k := by
  unfold rotU
  rw [UInt32.toNat_ofNat']
  exact Nat.mod_eq_of_lt (rotS_lt (u32_lt x) hk)
theorem rot_shifts (x : UInt32) {k : Nat} (h0 : 0 < k) (hk : k < 32) : shU x k ||| slU x (32 - k) = rotU x k := by
  apply UInt32.toNat_inj.1
  rw [UInt32.toNat_or, shU_nat, slU_nat, rotU_nat x (by omega), Nat.or_comm]
  have := rot_or (x := x.toNat) (s := 32 - k) (u32_lt x) (by omega)
  rw [show 32 - (32 - k) = k by omega, Nat.mod_eq_of_lt hk] at this
  exact this
def turnU (x : UInt32) (a b c : Nat) : UInt32 := rotU x a ^^^ rotU x b ^^^ rotU x c
def smallU (x : UInt32) (a b c : Nat) : UInt32 := rotU x a ^^^ rotU x b ^^^ shU x c
theorem ch_eq (e f g : UInt32) : (e &&& f) ^^^ (~~~ e &&& g) = (e &&& f ||| ~~~ e &&& g) := by
  apply UInt32.toBitVec_inj.1
  simp only [UInt32.toBitVec_xor, UInt32.toBitVec_and, UInt32.toBitVec_not, UInt32.toBitVec_or]
  ext i
  simp
  cases e.toBitVec[i] <;> cases f.toBitVec[i] <;> cases g.toBitVec[i] <;> rfl
theorem maj_eq (a b c : UInt32) : (a &&& b) ^^^ (a &&& c) ^^^ (b &&& c) = (a &&& b ||| a &&& c ||| b &&& c) := by
  apply UInt32.toBitVec_inj.1
  simp only [UInt32.toBitVec_xor, UInt32.toBitVec_and, UInt32.toBitVec_or]
  ext i
  simp
  cases a.toBitVec[i] <;> cases b.toBitVec[i] <;> cases c.toBitVec[i] <;> rfl

/-- The schedule. -/
def nxt (b : List UInt8) (w : List UInt32) (t : Nat) : UInt32 :=
  if t < 16 then UInt32.ofNat (ldV b (4 * t : Nat) 4) else smallU (w.getD (t - 2) 0) 17 19 10 + w.getD (t - 7) 0 + smallU (w.getD (t - 15) 0) 7 18 3 + w.getD (t - 16) 0
def sch (b : List UInt8) : Nat → List UInt32
  | 0 => []
  | t + 1 => sch b t ++ [nxt b (sch b t) t]
theorem sch_length (b : List UInt8) : ∀ t, (sch b t).length = t
  | 0 => rfl
  | t + 1 => by simp [sch, sch_length b t]
/-- The constants. -/
def kL : List UInt32 := [1116352408, 1899447441, 3049323471, 3921009573, 961987163, 1508970993, 2453635748, 2870763221, 3624381080, 310598401, 607225278, 1426881987, 1925078388, 2162078206, 2614888103, 3248222580, 3835390401, 4022224774, 264347078, 604807628, 770255983, 1249150122, 1555081692, 1996064986, 2554220882, 2821834349, 2952996808, 3210313671, 3336571891, 3584528711, 113926993, 338241895, 666307205, 773529912, 1294757372, 1396182291, 1695183700, 1986661051, 2177026350, 2456956037, 2730485921, 2820302411, 3259730800, 3345764771, 3516065817, 3600352804, 4094571909, 275423344, 430227734, 506948616, 659060556, 883997877, 958139571, 1322822218, 1537002063, 1747873779, 1955562222, 2024104815, 2227730452, 2361852424, 2428436474, 2756734187, 3204031479, 3329325298]
theorem kL_length : kL.length = 64 := by rfl
/-- The eight numbers. -/
structure N8 where
  a : UInt32
  b : UInt32
  c : UInt32
  d : UInt32
  e : UInt32
  f : UInt32
  g : UInt32
  h : UInt32
def N8.l (s : N8) : List UInt32 := [s.a, s.b, s.c, s.d, s.e, s.f, s.g, s.h]
def N8.cells (s : N8) : List Value := s.l.map uv
theorem N8.cells_length (s : N8) : s.cells.length = 8 := rfl
theorem N8.l_length (s : N8) : s.l.length = 8 := rfl
def one8 (s : N8) (k w : UInt32) : UInt32 := s.h + turnU s.e 6 11 25 + (s.e &&& s.f ||| ~~~ s.e &&& s.g) + k + w
def two8 (s : N8) : UInt32 := turnU s.a 2 13 22 + (s.a &&& s.b ||| s.a &&& s.c ||| s.b &&& s.c)
def rnd (s : N8) (k w : UInt32) : N8 := ⟨one8 s k w + two8 s, s.a, s.b, s.c, s.d + one8 s k w, s.e, s.f, s.g⟩
def rnds (b : List UInt8) (s : N8) : Nat → N8
  | 0 => s
  | t + 1 => rnd (rnds b s t) (kL.getD t 0) ((sch b 64).getD t 0)
def N8.add (s x : N8) : N8 := ⟨s.a + x.a, s.b + x.b, s.c + x.c, s.d + x.d, s.e + x.e, s.f + x.f, s.g + x.g, s.h + x.h⟩
def blk (s : N8) (b : List UInt8) : N8 := s.add (rnds b s 64)
def iv8 : N8 := ⟨0x6a09e667, 0xbb67ae85, 0x3c6ef372, 0xa54ff53a, 0x510e527f, 0x9b05688c, 0x1f83d9ab, 0x5be0cd19⟩
/-- The n-th block. -/
def chunk (l : List UInt8) (i : Nat) : List UInt8 := (l.drop (64 * i)).take 64
theorem chunk_length {l : List UInt8} {i : Nat} (h : i < l.length / 64) : (chunk l i).length = 64 := by
  unfold chunk
  rw [List.length_take, List.length_drop]
  omega
theorem chunk_app {a b : List UInt8} {i : Nat} (h : i < a.length / 64) : chunk (a ++ b) i = chunk a i := by
  unfold chunk
  rw [List.drop_append_of_le_length (by omega), List.take_append_of_le_length (by rw [List.length_drop]; omega)]
theorem chunk_right {a b : List UInt8} {n i : Nat} (h : a.length = 64 * n) : chunk (a ++ b) (n + i) = chunk b i := by
  unfold chunk
  rw [List.drop_append, List.drop_eq_nil_of_le (by omega), List.nil_append]
  congr 2
  omega
def runB (s : N8) (l : List UInt8) : Nat → N8
  | 0 => s
  | n + 1 => blk (runB s l n) (chunk l n)
theorem runB_app (s : N8) (a b : List UInt8) : ∀ n, n ≤ a.length / 64 → runB s (a ++ b) n = runB s a n
  | 0, _ => rfl
  | n + 1, h => by unfold runB; rw [runB_app s a b n (by omega), chunk_app (by omega)]
theorem runB_right (s : N8) (a b : List UInt8) (n : Nat) (h : a.length = 64 * n) : ∀ m, runB s (a ++ b) (n + m) = runB (runB s a n) b m
  | 0 => by rw [Nat.add_zero, runB_app s a b n (by omega)]; rfl
  | m + 1 => by
    show blk (runB s (a ++ b) (n + m)) (chunk (a ++ b) (n + m)) = _
    rw [runB_right s a b n h m, chunk_right h]
    rfl
/-- All whole blocks of some bytes; what is left. -/
def allB (s : N8) (l : List UInt8) : N8 := runB s l (l.length / 64)
def restB (l : List UInt8) : List UInt8 := l.drop (64 * (l.length / 64))
theorem restB_length (l : List UInt8) : (restB l).length = l.length % 64 := by unfold restB; rw [List.length_drop]; omega
theorem full_length (l : List UInt8) : (l.take (64 * (l.length / 64))).length = 64 * (l.length / 64) := by rw [List.length_take]; omega
theorem full_rest (l : List UInt8) : l.take (64 * (l.length / 64)) ++ restB l = l := List.take_append_drop _ _
theorem runB_take (s : N8) (l : List UInt8) : runB s (l.take (64 * (l.length / 64))) (l.length / 64) = allB s l := by
  have h := full_length l
  conv => rhs; unfold allB; rw [show runB s l = runB s (l.take (64 * (l.length / 64)) ++ restB l) by rw [full_rest]]
  rw [runB_app _ _ _ _ (by omega)]
/-- What comes behind goes on from there. -/
theorem allB_app (s : N8) (l b : List UInt8) : allB s (l ++ b) = allB (allB s l) (restB l ++ b) ∧ restB (l ++ b) = restB (restB l ++ b) := by
  have h := full_length l
  have e : l ++ b = l.take (64 * (l.length / 64)) ++ (restB l ++ b) := by rw [← List.append_assoc, full_rest]
  have hn : (l ++ b).length / 64 = l.length / 64 + (restB l ++ b).length / 64 := by
    rw [List.length_append, List.length_append, restB_length]; omega
  constructor
  · show runB s (l ++ b) ((l ++ b).length / 64) = _
    rw [hn]
    conv => lhs; rw [e]
    rw [runB_right _ _ _ _ h, runB_take]
    rfl
  · conv => lhs; unfold restB; rw [hn, e]
    rw [List.drop_append, List.drop_eq_nil_of_le (by omega), List.nil_append, h]
    unfold restB
    congr 1
    omega
/-- What stands behind all bytes. -/
def tailB (n : Nat) : List UInt8 := 0x80 :: (List.replicate ((119 - n % 64) % 64) 0 ++ putL (8 * n % 18446744073709551616) 8)
theorem tail_length (n : Nat) : (n + (tailB n).length) % 64 = 0 := by unfold tailB; simp [putL_length]; omega
def shaN (l : List UInt8) : N8 := allB iv8 (l ++ tailB l.length)
def outB (s : N8) : List UInt8 := (s.l.map fun x => putL x.toNat 4).flatten
def shaL (l : List UInt8) : List UInt8 := outB (shaN l)
theorem outB_length (s : N8) : (outB s).length = 32 := by simp [outB, N8.l, putL_length]
theorem shaL_length (l : List UInt8) : (shaL l).length = 32 := outB_length _
theorem shaN_rest (l : List UInt8) : shaN l = allB (allB iv8 l) (restB l ++ tailB l.length) := (allB_app iv8 l _).1
end Go.Proofs.Ytdpomchhbbopbaa
