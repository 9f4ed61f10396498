/- Several texts in one, as they stand in wip/src. -/
import Derived.Deep.Quiet
import Derived.StillTail
import Derived.Test.YtdpomchhbbopbaaRows
import Derived.Test.YtdpomchhbbopbaaGr1
/- Regions whose order is drawn: one walk in the text's order serves every order, where each operation yields one value in every world that only grew; and the same ahead of a tail that must come last. -/
namespace Go.Proofs.Ytdpomchhbbopbaa
open Go Go.RowKit
set_option linter.unusedVariables false

/-- An operation yields 'v' in every world of a class, and leaves the world; or is a call that leaves one of the class. -/
def OD (P : Program) (ops : Array Oper) (C : World → Prop) (Q : (Nat → Value) → Prop) : List Oper → (Nat → Value) → Prop
  | [], e => Q e
  | o :: rest, e => if wantedE ops e o then ∃ v, (∀ w, C w → Oper.quietUpon P C w v ((execOp (ev e) o).run P w)) ∧ OD P ops C Q rest (put e o.dst v) else OD P ops C Q rest (put e o.dst undef)

theorem wpQuiet_of_OD {P : Program} {ops : Array Oper} {n : Nat} {C : World → Prop} {Q : (Nat → Value) → Prop} : ∀ (l : List Oper) {a : Act} {e : Nat → Value},
    dstsIn n l = true → St n a e → OD P ops C Q l e → wpQuiet P ops C (fun a => ∃ e, St n a e ∧ Q e) l a
  | [], _, e, _, hs, h => ⟨e, hs, h⟩
  | o :: l, a, e, hd, hs, h => by
    obtain ⟨hd0, hd1⟩ := dstsIn_cons hd
    unfold wpQuiet
    rw [wanted_eq hs]
    unfold OD at h
    split
    · rename_i hw
      rw [if_pos hw] at h
      obtain ⟨v, h1, h2⟩ := h
      refine ⟨v, fun w hw => ?_, wpQuiet_of_OD l hd1 (hs.put hd0 v) h2⟩
      unfold Oper.quietAt
      rw [hs.ev]
      exact h1 w hw
    · rename_i hw
      rw [if_neg hw] at h
      exact wpQuiet_of_OD l hd1 (hs.put hd0 undef) h
theorem wpStill_of_OD {P : Program} {ops : Array Oper} {n : Nat} {w : World} {Q : (Nat → Value) → Prop} : ∀ (l : List Oper) {a : Act} {e : Nat → Value},
    dstsIn n l = true → St n a e → OD P ops (fun w' => w' = w) Q l e → wpStill P ops w (fun a => ∃ e, St n a e ∧ Q e) l a
  | [], _, e, _, hs, h => ⟨e, hs, h⟩
  | o :: l, a, e, hd, hs, h => by
    obtain ⟨hd0, hd1⟩ := dstsIn_cons hd
    unfold wpStill
    rw [wanted_eq hs]
    unfold OD at h
    split
    · rename_i hw
      rw [if_pos hw] at h
      obtain ⟨v, h1, h2⟩ := h
      have h1 := h1 w rfl
      have hn := wpStill_of_OD l hd1 (hs.put hd0 v) h2
      unfold Oper.still
      rw [hs.ev]
      generalize (execOp (ev e) o).run P w = r at *
      cases r with
      | ok x w' =>
        cases x <;> simp only [Oper.quietUpon] at h1 <;> simp only [Oper.stillUpon]
        case value u => obtain ⟨rfl, rfl⟩ := h1; exact ⟨rfl, hn⟩
        case skip => obtain ⟨rfl, rfl⟩ := h1; exact ⟨rfl, hn⟩
        case enter f args => obtain ⟨rfl, hc⟩ := h1; exact ⟨rfl, v, hc, hn⟩
      | halt x w' => simp only [Oper.quietUpon] at h1
    · rename_i hw
      rw [if_neg hw] at h
      exact wpStill_of_OD l hd1 (hs.put hd0 undef) h
theorem wpStill_mono {P : Program} {ops : Array Oper} {w : World} {Q Q' : Act → Prop} (hq : ∀ a, Q a → Q' a) : ∀ (l : List Oper) {a : Act}, wpStill P ops w Q l a → wpStill P ops w Q' l a
  | [], a, h => hq a h
  | o :: l, a, h => by
    unfold wpStill at h ⊢
    split
    · rename_i hw; rw [if_pos hw] at h; exact Oper.still_mono (fun a ha => wpStill_mono hq l ha) h
    · rename_i hw; rw [if_neg hw] at h; exact wpStill_mono hq l h

section
variable {P : Program} {n : Nat} {Q : Exit → (Nat → Value) → World → Prop} {e : Nat → Value} {w : World}
theorem CW_draw {id : Nat} {l : List Oper} (hm : P.follows .mixedOrders = true) (hB : Region.lexB .any l.toArray = true) (hd : dstsIn n l = true)
    (h : OD P l.toArray (fun w' => Ext w w') (fun e' => ∀ w', Ext w w' → Q .normal e' w') l e) : CW P n (.region id l.toArray true) Q e w := by
  unfold CW
  intro a hs
  refine wp_region_quiet (C := fun w' => Ext w w') hm hB (Ext.drew' w) ?_
  have := wpQuiet_of_OD l hd hs h
  have hmono : ∀ (l : List Oper) (a : Act), wpQuiet P l.toArray (fun w' => Ext w w') (fun a => ∃ e, St n a e ∧ ∀ w', Ext w w' → Q .normal e w') l a → True := fun _ _ _ => trivial
  have key : ∀ (ops : Array Oper) (l : List Oper) (a : Act), wpQuiet P ops (fun w' => Ext w w') (fun a => ∃ e, St n a e ∧ ∀ w', Ext w w' → Q .normal e w') l a →
      wpQuiet P ops (fun w' => Ext w w') (fun a' => ∀ w', Ext w w' → QA n Q .normal a' w') l a := by
    intro ops l
    induction l with
    | nil => intro a ⟨e, hs, h⟩ w' hw; exact ⟨e, hs, h w' hw⟩
    | cons o l ih =>
      intro a h
      unfold wpQuiet at h ⊢
      split
      · rename_i hw; rw [if_pos hw] at h; exact Oper.quiet_mono (fun a ha => ih a ha) h
      · rename_i hw; rw [if_neg hw] at h; exact ih _ h
  exact key _ _ _ this
theorem CW_tail {id : Nat} {l : List Oper} (k : Nat) (hm : P.follows .mixedOrders = true) (hB : Region.lexTailB .any l.toArray k = true) (hd : dstsIn n l = true)
    (h : OD P l.toArray (fun w' => w' = w.drew) (fun e' => OW P l.toArray Q (l.drop k) e' w.drew) (l.take k) e) : CW P n (.region id l.toArray true) Q e w := by
  unfold CW
  intro a hs
  refine wp_region_still_tail k hm hB ?_
  have hd1 : dstsIn n (l.take k) = true := by
    unfold dstsIn at hd ⊢
    rw [List.all_eq_true] at hd ⊢
    exact fun o ho => hd o (List.mem_of_mem_take ho)
  have hd2 : dstsIn n (l.drop k) = true := by
    unfold dstsIn at hd ⊢
    rw [List.all_eq_true] at hd ⊢
    exact fun o ho => hd o (List.mem_of_mem_drop ho)
  refine wpStill_mono ?_ _ (wpStill_of_OD (l.take k) hd1 hs h)
  rintro a' ⟨e', hs', h'⟩
  exact wpList_of_OW _ hd2 hs' h'
end
section
variable {P : Program} {ops : Array Oper} {C : World → Prop} {Q : (Nat → Value) → Prop} {rest : List Oper} {e : Nat → Value} {d : Tmp} {ty : TypeId} {pos : String} {aft : Array Edge}
theorem OD_nil (h : Q e) : OD P ops C Q [] e := h
theorem OD_take {dst : Option Tmp} {op : Op} {g : Nat × Bool} (hw : wantedE ops e ⟨dst, op, ty, pos, aft, some g⟩ = true) (h : OD P ops C Q (⟨dst, op, ty, pos, aft, none⟩ :: rest) e) : OD P ops C Q (⟨dst, op, ty, pos, aft, some g⟩ :: rest) e := by
  unfold OD at h ⊢
  rw [if_pos (by rfl)] at h
  rw [if_pos hw]
  exact h
theorem OD_pass {dst : Option Tmp} {op : Op} {g : Nat × Bool} (hw : wantedE ops e ⟨dst, op, ty, pos, aft, some g⟩ = false) (h : OD P ops C Q rest (put e dst undef)) : OD P ops C Q (⟨dst, op, ty, pos, aft, some g⟩ :: rest) e := by
  unfold OD
  rw [if_neg (by rw [hw]; simp)]
  exact h
theorem OD_split {l : List Oper} (s : Nat) (b : Bool) (hs : e s = .bool b) (ht : b = true → OD P ops C Q l (upd e s (.bool true))) (hf : b = false → OD P ops C Q l (upd e s (.bool false))) : OD P ops C Q l e := by
  cases b with
  | true => rw [upd_self hs]; exact ht rfl
  | false => rw [upd_self hs]; exact hf rfl
/-- What one operation is to come to. -/
def stay (e : Nat → Value) (d : Tmp) (v : Value) (w : World) : Exit → (Nat → Value) → World → Prop := fun x e' w' => x = .normal ∧ e' = upd e d v ∧ w' = w
theorem stay_mk (e : Nat → Value) (d : Tmp) (v : Value) (w : World) : stay e d v w .normal (upd e d v) w := ⟨rfl, rfl, rfl⟩
theorem OD_step {op : Op} (v : Value) (h1 : ∀ w, C w → OW P ops (stay e d v w) [⟨some d, op, ty, pos, aft, none⟩] e w) (h : OD P ops C Q rest (upd e d v)) : OD P ops C Q (⟨some d, op, ty, pos, aft, none⟩ :: rest) e := by
  unfold OD
  rw [if_pos (by rfl)]
  refine ⟨v, fun w hw => ?_, h⟩
  have hh := h1 w hw
  unfold OW at hh
  rw [if_pos (by rfl)] at hh
  have hinj : ∀ u, upd e d u = upd e d v → u = v := fun u hu => by
    have := congrFun hu d
    rwa [upd_same, upd_same] at this
  unfold opW at hh
  generalize (execOp (ev e) _).run P w = r at *
  cases r with
  | ok x w' =>
    cases x <;> simp only [opUpon] at hh <;> simp only [Oper.quietUpon]
    case value u => unfold OW at hh; exact ⟨hh.2.2, hinj _ hh.2.1⟩
    case skip => unfold OW at hh; exact ⟨hh.2.2, (hinj _ hh.2.1).symm⟩
    case enter f args =>
      obtain ⟨rfl, hc⟩ := hh
      refine ⟨rfl, hc.mono fun en w'' hx => ?_⟩
      obtain ⟨u, he, hx⟩ := hx
      unfold OW at hx
      rw [he, hinj _ hx.2.1, hx.2.2]
      exact ⟨rfl, hw⟩
  | halt x w' => simp only [opUpon] at hh
/-- A call in such a region. -/
theorem OD_call {f : FuncId} {fn : Func} {args : List Operand} {args' : List Value} {tys : Array TypeId} (v : Value) (hf : P.funcs[f]? = some fn) (hn : (fn.name == "runtime.NumGoroutine") = false) (hb : fn.body.isNone = false)
    (hc : ∀ w, C w → Calls P f args'.toArray w (fun en w' => en = .returned v ∧ C w')) (ha : args.map (ev e) = args') (h : OD P ops C Q rest (upd e d v)) :
    OD P ops C Q (⟨some d, .call { callee := .value (.func f), args := args.toArray, argTypes := tys }, ty, pos, aft, none⟩ :: rest) e := by
  unfold OD
  rw [if_pos (by rfl)]
  refine ⟨v, fun w hw => ?_, h⟩
  have h1 : (execOp (ev e) ⟨some d, .call { callee := .value (.func f), args := args.toArray, argTypes := tys }, ty, pos, aft, none⟩).run P w = .ok (.enter f args'.toArray) w := by
    subst ha
    have h1 : (callFunc f (args.toArray.map (ev e))).run P w = .ok (.enter f (args.toArray.map (ev e))) w := by
      simp only [callFunc, program]
      show Sem.run P (match P.funcs[f]? with | none => _ | some fn => _) w = _
      simp only [hf, hn, hb]
      rfl
    simpa [execOp, resolve, ev, Deferred.ofValue, invoke] using h1
  rw [h1]
  exact ⟨rfl, hc w hw⟩
end
attribute [irreducible] OD stay
end Go.Proofs.Ytdpomchhbbopbaa

/- The types' rows of this seat's program. -/
namespace Go.Proofs.Ytdpomchhbbopbaa
open Go Go.RowKit
theorem und_bytes : Try.prog.underlying 31 = some (.slice 5) := Try.underlying31
theorem und_bool : Try.prog.underlying 4 = some .bool := Try.underlying4
theorem und_u8 : Try.prog.underlying 5 = some (.int .u8) := Try.underlying5
theorem und_u32 : Try.prog.underlying 118 = some (.int .u32) := Try.underlying118
theorem und_u64 : Try.prog.underlying 94 = some (.int .u64) := Try.underlying94
theorem und_uint : Try.prog.underlying 142 = some (.int .u64) := Try.underlying142
theorem und_int : Try.prog.underlying 3 = some (.int .i64) := Try.underlying3
theorem und_bytess : Try.prog.underlying 127 = some (.slice 31) := Try.underlying127
theorem info_u8 : (Try.prog.info? 5).map (fun i => (i.zero, i.size, i.bytes)) = some (some (.int .u8 0), 1, 1) := by kernel_rfl
theorem one_u8 : OneT Try.prog 5 := ⟨.int .u8 0, 1, info_u8, rfl, by kernel_rfl⟩
theorem info_bytes : (Try.prog.info? 31).map (fun i => (i.zero, i.size, i.bytes)) = some (some (.slice none 0 0), 1, 24) := by kernel_rfl
theorem one_bytes : OneT Try.prog 31 := ⟨.slice none 0 0, 24, info_bytes, rfl, by kernel_rfl⟩
end Go.Proofs.Ytdpomchhbbopbaa

/- Plain facts on numbers and bytes (no program in sight). -/
namespace Go.Proofs.Ytdpomchhbbopbaa
open Go Go.RowKit
set_option linter.unusedVariables false

theorem wrap_u8 (n : Nat) : IntKind.u8.wrap (n : Int) = ((n % 256 : Nat) : Int) := by simp [IntKind.wrap, IntKind.signed, IntKind.bits]
theorem wrap_u32 (n : Nat) : IntKind.u32.wrap (n : Int) = ((n % 4294967296 : Nat) : Int) := by simp [IntKind.wrap, IntKind.signed, IntKind.bits]
theorem wrap_u64 (n : Nat) : IntKind.u64.wrap (n : Int) = ((n % 18446744073709551616 : Nat) : Int) := by simp [IntKind.wrap, IntKind.signed, IntKind.bits]
theorem wrap_u8_lt (n : Nat) (h : n < 256) : IntKind.u8.wrap (n : Int) = (n : Int) := by rw [wrap_u8, Nat.mod_eq_of_lt h]
theorem wrap_u32_lt (n : Nat) (h : n < 4294967296) : IntKind.u32.wrap (n : Int) = (n : Int) := by rw [wrap_u32, Nat.mod_eq_of_lt h]
theorem wrap_u64_lt (n : Nat) (h : n < 18446744073709551616) : IntKind.u64.wrap (n : Int) = (n : Int) := by rw [wrap_u64, Nat.mod_eq_of_lt h]
theorem ofInt_toNat (n a : Nat) (h : a < 2 ^ n) : (BitVec.ofInt n (a : Int)).toNat = a := by
  rw [BitVec.ofInt_natCast, BitVec.toNat_ofNat]; exact Nat.mod_eq_of_lt h
section
variable (a b : Nat)
theorem or_u8 (ha : a < 256) (hb : b < 256) : bitsK .or .u8 a b = ((a ||| b : Nat) : Int) := by
  show IntKind.u8.wrap ((BitVec.ofInt 8 (a : Int) ||| BitVec.ofInt 8 (b : Int)).toNat : Int) = _
  rw [BitVec.toNat_or, ofInt_toNat 8 a ha, ofInt_toNat 8 b hb, wrap_u8, Nat.mod_eq_of_lt (Nat.or_lt_two_pow (n := 8) ha hb)]
theorem xor_u8 (ha : a < 256) (hb : b < 256) : bitsK .xor .u8 a b = ((a ^^^ b : Nat) : Int) := by
  show IntKind.u8.wrap ((BitVec.ofInt 8 (a : Int) ^^^ BitVec.ofInt 8 (b : Int)).toNat : Int) = _
  rw [BitVec.toNat_xor, ofInt_toNat 8 a ha, ofInt_toNat 8 b hb, wrap_u8, Nat.mod_eq_of_lt (Nat.xor_lt_two_pow (n := 8) ha hb)]
theorem and_u8 (ha : a < 256) (hb : b < 256) : bitsK .and .u8 a b = ((a &&& b : Nat) : Int) := by
  show IntKind.u8.wrap ((BitVec.ofInt 8 (a : Int) &&& BitVec.ofInt 8 (b : Int)).toNat : Int) = _
  rw [BitVec.toNat_and, ofInt_toNat 8 a ha, ofInt_toNat 8 b hb, wrap_u8, Nat.mod_eq_of_lt (Nat.and_lt_two_pow (n := 8) _ hb)]
theorem or_u32 (ha : a < 4294967296) (hb : b < 4294967296) : bitsK .or .u32 a b = ((a ||| b : Nat) : Int) := by
  show IntKind.u32.wrap ((BitVec.ofInt 32 (a : Int) ||| BitVec.ofInt 32 (b : Int)).toNat : Int) = _
  rw [BitVec.toNat_or, ofInt_toNat 32 a ha, ofInt_toNat 32 b hb, wrap_u32, Nat.mod_eq_of_lt (Nat.or_lt_two_pow (n := 32) ha hb)]
theorem xor_u32 (ha : a < 4294967296) (hb : b < 4294967296) : bitsK .xor .u32 a b = ((a ^^^ b : Nat) : Int) := by
  show IntKind.u32.wrap ((BitVec.ofInt 32 (a : Int) ^^^ BitVec.ofInt 32 (b : Int)).toNat : Int) = _
  rw [BitVec.toNat_xor, ofInt_toNat 32 a ha, ofInt_toNat 32 b hb, wrap_u32, Nat.mod_eq_of_lt (Nat.xor_lt_two_pow (n := 32) ha hb)]
theorem and_u32 (ha : a < 4294967296) (hb : b < 4294967296) : bitsK .and .u32 a b = ((a &&& b : Nat) : Int) := by
  show IntKind.u32.wrap ((BitVec.ofInt 32 (a : Int) &&& BitVec.ofInt 32 (b : Int)).toNat : Int) = _
  rw [BitVec.toNat_and, ofInt_toNat 32 a ha, ofInt_toNat 32 b hb, wrap_u32, Nat.mod_eq_of_lt (Nat.and_lt_two_pow (n := 32) _ hb)]
theorem or_u64 (ha : a < 18446744073709551616) (hb : b < 18446744073709551616) : bitsK .or .u64 a b = ((a ||| b : Nat) : Int) := by
  show IntKind.u64.wrap ((BitVec.ofInt 64 (a : Int) ||| BitVec.ofInt 64 (b : Int)).toNat : Int) = _
  rw [BitVec.toNat_or, ofInt_toNat 64 a ha, ofInt_toNat 64 b hb, wrap_u64, Nat.mod_eq_of_lt (Nat.or_lt_two_pow (n := 64) ha hb)]
theorem and_u64 (ha : a < 18446744073709551616) (hb : b < 18446744073709551616) : bitsK .and .u64 a b = ((a &&& b : Nat) : Int) := by
  show IntKind.u64.wrap ((BitVec.ofInt 64 (a : Int) &&& BitVec.ofInt 64 (b : Int)).toNat : Int) = _
  rw [BitVec.toNat_and, ofInt_toNat 64 a ha, ofInt_toNat 64 b hb, wrap_u64, Nat.mod_eq_of_lt (Nat.and_lt_two_pow (n := 64) _ hb)]
end

/-- The last n bytes of a number, the greatest ahead. -/
def putL (x n : Nat) : List UInt8 := (List.range n).map fun i => UInt8.ofNat (x / 256 ^ (n - 1 - i))
theorem putL_length (x n : Nat) : (putL x n).length = n := by simp [putL]
/-- The number of some bytes. -/
def loadL (l : List UInt8) : Nat := l.foldl (fun x b => 256 * x + b.toNat) 0
theorem loadL_snoc (l : List UInt8) (b : UInt8) : loadL (l ++ [b]) = 256 * loadL l + b.toNat := by simp [loadL]
theorem foldl_lt : ∀ (l : List UInt8) (x k : Nat), x < 256 ^ k → l.foldl (fun x b => 256 * x + b.toNat) x < 256 ^ (k + l.length)
  | [], x, k, h => by simpa using h
  | b :: l, x, k, h => by
    have hb := b.toNat_lt
    have := foldl_lt l (256 * x + b.toNat) (k + 1) (by rw [Nat.pow_succ]; omega)
    simp only [List.foldl_cons, List.length_cons]
    have e : k + (l.length + 1) = k + 1 + l.length := by omega
    rw [e]
    exact this
theorem loadL_lt (l : List UInt8) : loadL l < 256 ^ l.length := by
  have := foldl_lt l 0 0 (by simp)
  simpa [loadL] using this
theorem take_succ_get {α : Type} (l : List α) (k : Nat) (h : k < l.length) : l.take (k + 1) = l.take k ++ [l[k]] := by
  rw [List.take_succ_eq_append_getElem h]
/-- What stands at a place. -/
def ldL (b : List UInt8) (at_ : Int) (n : Nat) : Option Nat := if 0 ≤ at_ ∧ at_.toNat + n ≤ b.length then some (loadL ((b.drop at_.toNat).take n)) else none
def ldV (b : List UInt8) (at_ : Int) (n : Nat) : Nat := (ldL b at_ n).getD 0
def ldB (b : List UInt8) (at_ : Int) (n : Nat) : Bool := (ldL b at_ n).isSome

/-- A turn by k places. -/
def rotS (x k : Nat) : Nat := x / 2 ^ k + (x % 2 ^ k) * 2 ^ (32 - k)
def rotK (n : Int) : Nat := (n % 32).toNat
def xorL (a b : List UInt8) : List UInt8 := List.zipWith (· ^^^ ·) a b
theorem xorL_length (a b : List UInt8) : (xorL a b).length = min a.length b.length := by simp [xorL]
theorem xor_bv (x y : UInt8) : bitsK .xor .u8 (x.toNat : Int) (y.toNat : Int) = ((x ^^^ y).toNat : Int) := by
  rw [xor_u8 _ _ x.toNat_lt y.toNat_lt, UInt8.toNat_xor]
theorem or_bv (x y : UInt8) : bitsK .or .u8 (x.toNat : Int) (y.toNat : Int) = ((x ||| y).toNat : Int) := by
  rw [or_u8 _ _ x.toNat_lt y.toNat_lt, UInt8.toNat_or]
theorem xorL_take_succ {a b : List UInt8} {k : Nat} (ha : k < a.length) (hb : k < b.length) : (xorL a b).take (k + 1) = (xorL a b).take k ++ [a[k] ^^^ b[k]] := by
  rw [take_succ_get _ _ (by rw [xorL_length]; omega)]
  simp [xorL]
theorem fdiv_nat (a b : Nat) : (a : Int).fdiv (b : Int) = ((a / b : Nat) : Int) := by rw [Int.fdiv_eq_ediv_of_nonneg _ (by omega)]; rfl
theorem tmod_nat (a b : Nat) : (a : Int).tmod (b : Int) = ((a % b : Nat) : Int) := rfl
theorem tdiv_nat (a b : Nat) : (a : Int).tdiv (b : Int) = ((a / b : Nat) : Int) := rfl
theorem rem_u32 (a b : Nat) (c : Int) (hc : c = (b : Int)) : (a : Int).tmod c = ((a % b : Nat) : Int) := by rw [hc]; rfl
theorem quo_u32 (a b : Nat) (c : Int) (hc : c = (b : Int)) (h : a < 4294967296) : IntKind.u32.wrap ((a : Int).tdiv c) = ((a / b : Nat) : Int) := by
  rw [hc, tdiv_nat, wrap_u32, Nat.mod_eq_of_lt (Nat.lt_of_le_of_lt (Nat.div_le_self _ _) h)]
theorem quo_u64 (a b : Nat) (c : Int) (hc : c = (b : Int)) (h : a < 18446744073709551616) : IntKind.u64.wrap ((a : Int).tdiv c) = ((a / b : Nat) : Int) := by
  rw [hc, tdiv_nat, wrap_u64, Nat.mod_eq_of_lt (Nat.lt_of_le_of_lt (Nat.div_le_self _ _) h)]
theorem tmod32 (n : Int) : n.tmod 32 = if 0 ≤ n then n % 32 else -((-n) % 32) := by
  split
  · rename_i h; exact Int.tmod_eq_emod_of_nonneg h
  · rename_i h
    have h2 : n = -(-n) := by omega
    rw [h2, Int.neg_tmod, Int.tmod_eq_emod_of_nonneg (by omega)]
    simp
theorem rot_mod (n : Int) : (n.tmod 32 + 32).tmod 32 = (rotK n : Int) := by
  unfold rotK
  rw [Int.tmod_eq_emod_of_nonneg (by rw [tmod32]; split <;> omega), tmod32]
  split <;> omega
theorem rotK_lt (n : Int) : rotK n < 32 := by unfold rotK; omega
theorem rotS_zero (x : Nat) : rotS x 0 = x := by simp [rotS, Nat.mod_one]
theorem rotS_lt {x k : Nat} (hx : x < 4294967296) (hk : k ≤ 32) : rotS x k < 4294967296 := by
  unfold rotS
  have e : (4294967296 : Nat) = 2 ^ k * 2 ^ (32 - k) := by rw [← Nat.pow_add, show k + (32 - k) = 32 by omega]
  have h1 : x / 2 ^ k < 2 ^ (32 - k) := by rw [Nat.div_lt_iff_lt_mul (Nat.two_pow_pos k)]; rw [Nat.mul_comm, ← e]; exact hx
  have h2 : x % 2 ^ k + 1 ≤ 2 ^ k := Nat.mod_lt _ (Nat.two_pow_pos k)
  have h3 := Nat.mul_le_mul_right (2 ^ (32 - k)) h2
  rw [Nat.add_mul, ← e] at h3
  omega
theorem rotS_succ {x k : Nat} (hk : k < 32) : rotS x (k + 1) = rotS x k / 2 + rotS x k % 2 * 2147483648 := by
  unfold rotS
  obtain ⟨q, r, hr, hx⟩ : ∃ q r, r < 2 ^ k ∧ x = q * 2 ^ k + r := ⟨x / 2 ^ k, x % 2 ^ k, Nat.mod_lt _ (Nat.two_pow_pos k), by rw [Nat.mul_comm]; exact (Nat.div_add_mod x (2 ^ k)).symm⟩
  have e1 : x / 2 ^ k = q := by rw [hx, Nat.mul_comm, Nat.mul_add_div (Nat.two_pow_pos k), Nat.div_eq_of_lt hr]; rfl
  have e2 : x % 2 ^ k = r := by rw [hx, Nat.mul_comm, Nat.mul_add_mod, Nat.mod_eq_of_lt hr]
  have e3 : x / 2 ^ (k + 1) = q / 2 := by rw [Nat.pow_succ, ← Nat.div_div_eq_div_mul, e1]
  have e4 : x % 2 ^ (k + 1) = q % 2 * 2 ^ k + r := by
    rw [Nat.pow_succ, Nat.mod_mul, e1, e2, Nat.mul_comm, Nat.add_comm]
  have p1 : 2 ^ (32 - k) = 2 * 2 ^ (32 - (k + 1)) := by rw [← Nat.pow_succ']; congr 1; omega
  have p2 : 2 ^ k * 2 ^ (32 - (k + 1)) = 2147483648 := by rw [← Nat.pow_add, show k + (32 - (k + 1)) = 31 by omega]
  rw [e1, e2, e3, e4, p1]
  generalize 2 ^ (32 - (k + 1)) = z at *
  have h1 : (q + r * (2 * z)) / 2 = q / 2 + r * z := by
    rw [show r * (2 * z) = 2 * (r * z) by rw [Nat.mul_left_comm], Nat.add_mul_div_left _ _ (by decide)]
  have h2 : (q + r * (2 * z)) % 2 = q % 2 := by
    rw [show r * (2 * z) = 2 * (r * z) by rw [Nat.mul_left_comm], Nat.add_mul_mod_self_left]
  rw [h1, h2, Nat.add_mul, Nat.mul_assoc, p2]
  omega
/-- A turn out of two shifts. -/
theorem rot_or {x s : Nat} (hx : x < 4294967296) (hs : s < 32) : (x * 2 ^ s % 4294967296) ||| (x / 2 ^ (32 - s)) = rotS x ((32 - s) % 32) := by
  by_cases h0 : s = 0
  · subst h0
    rw [Nat.pow_zero, Nat.mul_one, Nat.mod_eq_of_lt hx, Nat.div_eq_of_lt hx, Nat.or_zero]
    exact (rotS_zero x).symm
  · have hk : (32 - s) % 32 = 32 - s := Nat.mod_eq_of_lt (by omega)
    rw [hk]
    unfold rotS
    have hss : 32 - (32 - s) = s := by omega
    rw [hss]
    have e : (4294967296 : Nat) = 2 ^ (32 - s) * 2 ^ s := by rw [← Nat.pow_add, show 32 - s + s = 32 by omega]
    have h1 : x * 2 ^ s % 4294967296 = (x % 2 ^ (32 - s)) * 2 ^ s := by rw [e, Nat.mul_mod_mul_right]
    have h2 : x / 2 ^ (32 - s) < 2 ^ s := by rw [Nat.div_lt_iff_lt_mul (Nat.two_pow_pos _), Nat.mul_comm, ← e]; exact hx
    rw [h1, Nat.mul_comm (x % 2 ^ (32 - s)), ← Nat.two_pow_add_eq_or_of_lt h2, Nat.add_comm]
end Go.Proofs.Ytdpomchhbbopbaa

/- Regions whose order is drawn, in general: each operation has a fact that lasts ('Phi'), shown from the facts of those that must come ahead of it; whatever order is drawn, all facts hold at the end. A tail that must come last is walked in its order. -/
namespace Go.Proofs.Ytdpomchhbbopbaa
open Go Go.RowKit
set_option linter.unusedVariables false

abbrev Fact := Value → World → Prop
def isV (v : Value) : Fact := fun u _ => u = v
def isBs (l : List UInt8) : Fact := fun u w => ∃ A c, u = .slice A l.length c ∧ l.length ≤ c ∧ Bs w A l
def isAnyF : Fact := fun _ _ => True
def Lasts (φ : Fact) : Prop := ∀ v w w', Ext w w' → φ v w → φ v w'
theorem lasts_isV (v : Value) : Lasts (isV v) := fun _ _ _ _ h => h
theorem lasts_isAny : Lasts isAnyF := fun _ _ _ _ h => h
theorem lasts_isBs (l : List UInt8) : Lasts (isBs l) := fun v w w' he h => by
  obtain ⟨A, c, h1, h2, h3⟩ := h
  exact ⟨A, c, h1, h2, h3.ext he⟩

structure LFact where
  f : Fact
  last : Lasts f
def vF (v : Value) : LFact := ⟨isV v, lasts_isV v⟩
def bF (l : List UInt8) : LFact := ⟨isBs l, lasts_isBs l⟩
def aF : LFact := ⟨isAnyF, lasts_isAny⟩
def dstsOf (l : List Oper) : List Nat := l.filterMap (·.dst)
def acycB (l : List Oper) : Bool := l.zipIdx.all fun x => x.1.after.all fun e => !Region.binds .any e || decide (e.on < x.2)
def nodupB : List Nat → Bool
  | [] => true
  | a :: l => !l.contains a && nodupB l

/-- What is known when operation 'o' comes up. -/
structure Known (ops : Array Oper) (ds : List Nat) (Φ : Nat → Fact) (e0 : Nat → Value) (w0 : World) (o : Oper) (e : Nat → Value) (w : World) : Prop where
  ext : Ext w0 w
  out : ∀ s, ds.contains s = false → e s = e0 s
  pre : ∀ (k : Nat) (d : Tmp), (o.after.toList.any fun ed => Region.binds .any ed && ed.on == k) = true → ((ops[k]?).bind (·.dst)) = some d → Φ k (e d) w
def Obl (P : Program) (ops : Array Oper) (ds : List Nat) (Φ : Nat → Fact) (e0 : Nat → Value) (w0 : World) (i : Nat) (o : Oper) : Prop :=
  ∀ e w, Known ops ds Φ e0 w0 o e w → if wantedE ops e o then opW P o e w (fun v w' => Ext w w' ∧ Φ i v w') else Φ i undef w
def Obls (P : Program) (ops : Array Oper) (ds : List Nat) (Φ : Nat → Fact) (e0 : Nat → Value) (w0 : World) : List Oper → Nat → Prop
  | [], _ => True
  | o :: l, i => Obl P ops ds Φ e0 w0 i o ∧ Obls P ops ds Φ e0 w0 l (i + 1)
theorem Obls.at_ {P : Program} {ops : Array Oper} {ds : List Nat} {Φ : Nat → Fact} {e0 : Nat → Value} {w0 : World} : ∀ {l : List Oper} {k : Nat}, Obls P ops ds Φ e0 w0 l k → ∀ (i : Nat) (o : Oper), l[i]? = some o → Obl P ops ds Φ e0 w0 (k + i) o
  | [], _, _, i, o, h => by simp at h
  | o' :: l, k, hh, 0, o, h => by simp at h; subst h; exact hh.1
  | o' :: l, k, hh, i + 1, o, h => by
    have := Obls.at_ hh.2 i o (by simpa using h)
    rw [show k + (i + 1) = k + 1 + i by omega]
    exact this

section
variable {P : Program} {n : Nat} {ops : Array Oper} {Φ : Nat → Fact} {e0 : Nat → Value} {w0 : World}
/-- What holds while the heads come. -/
structure Inv (ops : Array Oper) (n m : Nat) (ds : List Nat) (Φ : Nat → Fact) (e0 : Nat → Value) (w0 : World) (listed : Array Bool) (a : Act) (w : World) : Prop where
  head : HeadInv .any ops m listed
  st : ∃ e, St n a e ∧ (∀ s, ds.contains s = false → e s = e0 s) ∧ ∀ (i : Nat) (o : Oper) (d : Tmp), ops[i]? = some o → o.dst = some d → listed.getD i false = true → Φ i (e d) w
  ext : Ext w0 w

def unl (m : Nat) (listed : Array Bool) : Nat := ((List.range m).filter fun i => !listed.getD i true).length
theorem filter_one {p : Nat → Bool} {i : Nat} (hp : p i = true) : ∀ (l : List Nat), l.Nodup → i ∈ l → (l.filter fun j => p j && !(j == i)).length + 1 = (l.filter p).length
  | [], _, h => by cases h
  | a :: l, hn, hi => by
    obtain ⟨hn1, hn2⟩ := List.nodup_cons.1 hn
    by_cases ha : a = i
    · subst ha
      have : (l.filter fun j => p j && !(j == a)) = l.filter p := by
        apply List.filter_congr
        intro x hx
        have : x ≠ a := fun h => hn1 (h ▸ hx)
        simp [this]
      simp [hp, this]
    · have hi' : i ∈ l := by
        rcases List.mem_cons.1 hi with h | h
        · exact absurd h.symm ha
        · exact h
      have ih := filter_one hp l hn2 hi'
      by_cases hpa : p a = true
      · simp [hpa, ha]; simpa using ih
      · simp [hpa]; simpa using ih
theorem unl_set {m i : Nat} {listed : Array Bool} (hi : i < m) (hm : m ≤ listed.size) (hu : listed.getD i true = false) : unl m (listed.setIfInBounds i true) + 1 = unl m listed := by
  unfold unl
  rw [← filter_one (p := fun i => !listed.getD i true) (i := i) (by simp only [hu, Bool.not_false]) (List.range m) List.nodup_range (List.mem_range.2 hi)]
  congr 2
  apply List.filter_congr
  intro j hj
  have hj' := List.mem_range.1 hj
  by_cases h : j = i
  · subst h; simp [show j < listed.size by omega]
  · rw [getD_set_ne true (Ne.symm h)]; simp [h]

theorem ready_some {m : Nat} {listed : Array Bool} (hac : acycB ops.toList = true) (hm : m ≤ ops.size) (hsz : listed.size = ops.size) (hu : 0 < unl m listed) : ∃ i, i < m ∧ i ∈ Region.ready .any ops listed := by
  have hex : ∃ i, i < m ∧ listed.getD i true = false := by
    unfold unl at hu
    obtain ⟨i, hi⟩ := List.exists_mem_of_length_pos hu
    rw [List.mem_filter, List.mem_range] at hi
    exact ⟨i, hi.1, by simpa using hi.2⟩
  obtain ⟨i, hi, hun⟩ := hex
  induction i using Nat.strongRecOn with
  | _ i ih =>
    by_cases hall : ∃ j, j < i ∧ listed.getD j true = false
    · obtain ⟨j, hj, hjun⟩ := hall
      exact ih j hj (by omega) hjun
    · refine ⟨i, hi, mem_ready.2 ⟨hun, ops[i]'(by omega), by simp [show i < ops.size by omega], fun e he hb => ?_⟩⟩
      unfold acycB at hac
      rw [List.all_eq_true] at hac
      have h1 := hac (ops[i]'(by omega), i) (by
        rw [List.mem_iff_getElem?]
        exact ⟨i, by simp [show i < ops.size by omega]⟩)
      rw [Array.all_eq_true'] at h1
      have h2 := h1 e he
      simp only [hb, Bool.not_true, Bool.false_or, decide_eq_true_eq] at h2
      have h3 : ¬ listed.getD e.on true = false := fun h => hall ⟨_, h2, h⟩
      have hlt : e.on < listed.size := by omega
      simp [hlt] at h3 ⊢
      exact h3

theorem wpAny_heads {m g : Nat} {Q' : Exit → Act → World → Prop} (hac : acycB ops.toList = true) (hm : m ≤ ops.size) (hdn : dstsIn n ops.toList = true) (hnd : nodupB (dstsOf ops.toList) = true)
    (hready : ∀ listed, HeadInv .any ops m listed → 0 < unl m listed → ∀ i ∈ Region.ready .any ops listed, i < m)
    (hmono : ∀ i, Lasts (Φ i))
    (hops : ∀ i o, i < m → ops[i]? = some o → Obl P ops (dstsOf (ops.toList.take m)) Φ e0 w0 i o)
    (hfin : ∀ listed a w, Inv ops n m (dstsOf (ops.toList.take m)) Φ e0 w0 listed a w → unl m listed = 0 → wpAny P .any ops Q' g listed a w) :
    ∀ (f : Nat) (listed : Array Bool) (a : Act) (w : World), unl m listed = f → Inv ops n m (dstsOf (ops.toList.take m)) Φ e0 w0 listed a w → wpAny P .any ops Q' (f + g) listed a w := by
  intro f
  induction f with
  | zero => intro listed a w hu hI; rw [Nat.zero_add]; exact hfin _ _ _ hI hu
  | succ f ih =>
    intro listed a w hu hI
    rw [show f + 1 + g = (f + g) + 1 by omega]
    obtain ⟨i0, hi0, hr0⟩ := ready_some hac hm hI.head.size (by omega)
    refine ⟨fun h0 => (by rw [h0] at hr0; cases hr0), fun i hi => ?_⟩
    have him := hready listed hI.head (by omega) i hi
    obtain ⟨hun, o, ho, hall⟩ := mem_ready.1 hi
    obtain ⟨e, hs, hout, hfacts⟩ := hI.st
    have hk : Known ops (dstsOf (ops.toList.take m)) Φ e0 w0 o e w := by
      refine ⟨hI.ext, hout, fun k d hk hd => ?_⟩
      rw [List.any_eq_true] at hk
      obtain ⟨ed, hed, hb⟩ := hk
      have hed := Array.mem_toList_iff.1 hed
      simp only [Bool.and_eq_true, beq_iff_eq] at hb
      obtain ⟨hb1, hb2⟩ := hb
      have hl := hall ed hed hb1
      rw [hb2] at hl
      cases hok : ops[k]? with
      | none => rw [hok] at hd; cases hd
      | some ok => rw [hok] at hd; exact hfacts k ok d hok hd hl
    have hobl := hops i o him ho e w hk
    have hdo : ∀ k, o.dst = some k → k < n := by
      intro k hk
      unfold dstsIn at hdn
      rw [List.all_eq_true] at hdn
      have := hdn o (by rw [List.mem_iff_getElem?]; exact ⟨i, by simpa using ho⟩)
      rw [hk] at this
      simpa using this
    have hds : ∀ d, o.dst = some d → (dstsOf (ops.toList.take m)).contains d = true := fun d hd => by
      simp only [List.contains_iff_mem, dstsOf, List.mem_filterMap]
      exact ⟨o, by rw [List.mem_iff_getElem?]; exact ⟨i, by rw [List.getElem?_take, if_pos him]; simpa using ho⟩, hd⟩
    have hother : ∀ (j : Nat) (oj : Oper) (d : Tmp), ops[j]? = some oj → oj.dst = some d → o.dst = some d → j = i := by
      intro j oj d hj hd hd'
      have key : ∀ (l : List Oper) (i j : Nat) (o oj : Oper), nodupB (dstsOf l) = true → l[i]? = some o → l[j]? = some oj → o.dst = some d → oj.dst = some d → i = j := by
        intro l
        induction l with
        | nil => intro i j o oj _ h; simp at h
        | cons x l ihl =>
          intro i j o oj hn hi hj h1 h2
          have hmem : ∀ (k : Nat) (o : Oper), l[k]? = some o → o.dst = some d → d ∈ dstsOf l := fun k o hk ho => by
            simp only [dstsOf, List.mem_filterMap]
            exact ⟨o, List.mem_iff_getElem?.2 ⟨k, hk⟩, ho⟩
          cases i with
          | zero =>
            cases j with
            | zero => rfl
            | succ j =>
              simp at hi hj
              subst hi
              have hx : dstsOf (x :: l) = d :: dstsOf l := by simp [dstsOf, h1]
              rw [hx] at hn
              simp only [nodupB, Bool.and_eq_true, Bool.not_eq_true', List.contains_eq_mem, decide_eq_false_iff_not] at hn
              exact absurd (hmem j oj hj h2) hn.1
          | succ i =>
            cases j with
            | zero =>
              simp at hi hj
              subst hj
              have hx : dstsOf (x :: l) = d :: dstsOf l := by simp [dstsOf, h2]
              rw [hx] at hn
              simp only [nodupB, Bool.and_eq_true, Bool.not_eq_true', List.contains_eq_mem, decide_eq_false_iff_not] at hn
              exact absurd (hmem i o hi h1) hn.1
            | succ j =>
              simp at hi hj
              have hn' : nodupB (dstsOf l) = true := by
                cases hxd : x.dst with
                | none => have hx : dstsOf (x :: l) = dstsOf l := by simp [dstsOf, hxd]
                          rwa [hx] at hn
                | some dx => have hx : dstsOf (x :: l) = dx :: dstsOf l := by simp [dstsOf, hxd]
                             rw [hx] at hn
                             simp only [nodupB, Bool.and_eq_true] at hn
                             exact hn.2
              rw [ihl i j o oj hn' hi hj h1 h2]
      exact (key ops.toList i j o oj hnd (by simpa using ho) (by simpa using hj) hd' hd).symm
    have hlast : ∀ v w', Ext w w' → Φ i v w' → Inv ops n m (dstsOf (ops.toList.take m)) Φ e0 w0 (listed.setIfInBounds i true) (a.put o.dst v) w' := by
      intro v w' hw hv
      refine ⟨hI.head.set hi him, ⟨put e o.dst v, hs.put hdo v, fun s hsn => ?_, fun j oj d hj hd hl => ?_⟩, hI.ext.trans' hw⟩
      · cases hod : o.dst with
        | none => exact hout s hsn
        | some d =>
          have hne : s ≠ d := fun h => by rw [h, hds d hod] at hsn; cases hsn
          show upd e d v s = _
          rw [upd_ne _ _ hne]
          exact hout s hsn
      · cases hod : o.dst with
        | none =>
          have hji : j ≠ i := fun h => by
            subst h
            rw [ho] at hj
            cases hj
            rw [hod] at hd
            cases hd
          rw [getD_set_ne false (Ne.symm hji)] at hl
          exact hmono j _ _ _ hw (hfacts j oj d hj hd hl)
        | some d' =>
          show Φ j (upd e d' v d) w'
          by_cases hdd : d = d'
          · subst hdd
            have hji := hother j oj d hj hd hod
            subst hji
            rw [upd_same]
            exact hv
          · have hji : j ≠ i := fun h => by
              subst h
              rw [ho] at hj
              cases hj
              rw [hod] at hd
              exact hdd (Option.some.inj hd).symm
            rw [upd_ne _ _ hdd]
            rw [getD_set_ne false (Ne.symm hji)] at hl
            exact hmono j _ _ _ hw (hfacts j oj d hj hd hl)
    have hu' : unl m (listed.setIfInBounds i true) = f := by
      have := unl_set him (by rw [hI.head.size]; exact hm) hun
      omega
    unfold wpOp
    simp only [ho]
    rw [wanted_eq hs]
    split
    · rename_i hw
      rw [if_pos hw] at hobl
      exact .inl (Oper.wp_of_opW hs hobl fun v w' hv => ih _ _ _ hu' (hlast v w' hv.1 hv.2))
    · rename_i hw
      rw [if_neg hw] at hobl
      exact ih _ _ _ hu' (hlast undef w (Ext.rfl' w) hobl)
theorem unl_replicate (m k : Nat) (h : m ≤ k) : unl m (Array.replicate k false) = m := by
  unfold unl
  rw [List.filter_eq_self.2]
  · simp
  · intro i hi
    have := List.mem_range.1 hi
    simp [show i < k by omega]
theorem unl_zero {m : Nat} {listed : Array Bool} (h : unl m listed = 0) : ∀ i, i < m → listed.getD i true = true := by
  intro i hi
  unfold unl at h
  have h := List.eq_nil_of_length_eq_zero h
  rw [List.filter_eq_nil_iff] at h
  simpa using h i (List.mem_range.2 hi)
end

section
variable {P : Program} {n : Nat} {Q : Exit → (Nat → Value) → World → Prop} {e : Nat → Value} {w : World}
/-- All facts at the end. -/
def AllFacts (l : List Oper) (Φ : Nat → Fact) (e' : Nat → Value) (w' : World) : Prop := ∀ (i : Nat) (d : Tmp), ((l[i]?).bind (·.dst)) = some d → Φ i (e' d) w'
def factAt : List LFact → Nat → Fact
  | [], _ => isAnyF
  | φ :: _, 0 => φ.f
  | _ :: l, i + 1 => factAt l i
theorem factAt_last : ∀ (φs : List LFact) (i : Nat), Lasts (factAt φs i)
  | [], _ => lasts_isAny
  | φ :: _, 0 => φ.last
  | _ :: l, i + 1 => factAt_last l i
set_option maxHeartbeats 8000000 in
theorem CW_any {id : Nat} {l : List Oper} (φs : List LFact) (hm : P.follows .mixedOrders = true) (hac : acycB l = true) (hd : dstsIn n l = true) (hnd : nodupB (dstsOf l) = true)
    (hops : Obls P l.toArray (dstsOf l) (factAt φs) e w l 0)
    (h : ∀ e' w', Ext w w' → (∀ s, (dstsOf l).contains s = false → e' s = e s) → AllFacts l (factAt φs) e' w' → Q .normal e' w') : CW P n (.region id l.toArray true) Q e w := by
  unfold CW
  intro a hs
  refine wp_region_any hm ?_
  have hsize : l.toArray.size = l.length := by simp
  have inv0 : Inv l.toArray n l.toArray.size (dstsOf (l.toArray.toList.take l.toArray.size)) (factAt φs) e w (Array.replicate l.toArray.size false) a { w with drawn := w.drawn + 1 } :=
    ⟨⟨by simp, fun j oj _ hl => (by rw [getD_replicate_false] at hl; cases hl), fun t ht ht' => by omega⟩, ⟨e, hs, fun _ _ => rfl, fun i o d _ _ hl => (by rw [getD_replicate_false] at hl; cases hl)⟩, Ext.drew' w⟩
  have := wpAny_heads (P := P) (ops := l.toArray) (g := 0) (Q' := QA n Q) (n := n) (m := l.toArray.size) (Φ := factAt φs) (e0 := e) (w0 := w) (by simpa using hac) (Nat.le_refl _) (by simpa using hd) (by simpa using hnd)
    (fun listed _ _ i hi => by obtain ⟨_, o, ho, _⟩ := mem_ready.1 hi; exact (Array.getElem?_eq_some_iff.1 ho).1)
    (fun i => factAt_last φs i) (fun i o _ ho => by have := hops.at_ i o (by simpa using ho); simpa using this)
    (fun listed a w' hI hu => by
      have hall := unl_zero hu
      refine ⟨?_, ?_⟩
      · cases hr : Region.ready .any l.toArray listed with
        | nil => rfl
        | cons i r =>
          have hi : i ∈ Region.ready .any l.toArray listed := by rw [hr]; exact List.mem_cons_self
          obtain ⟨hun, o, ho, _⟩ := mem_ready.1 hi
          rw [hall i (Array.getElem?_eq_some_iff.1 ho).1] at hun
          cases hun
      · obtain ⟨e', hs', hout, hf⟩ := hI.st
        refine ⟨e', hs', h e' w' hI.ext (by simpa using hout) fun i d hid => ?_⟩
        cases ho : l[i]? with
        | none => rw [ho] at hid; cases hid
        | some o =>
          rw [ho] at hid
          have hlt : i < l.length := (List.getElem?_eq_some_iff.1 ho).1
          refine hf i o d (by simpa using ho) hid ?_
          have h1 := hall i (by simpa using hlt)
          have h2 : i < listed.size := by rw [hI.head.size]; simpa using hlt
          simp [h2] at h1 ⊢
          exact h1)
    _ _ a _ (unl_replicate _ _ (Nat.le_refl _)) inv0
  simpa using this
/-- The same ahead of a tail. -/
theorem CW_anyT {id : Nat} {l : List Oper} (k : Nat) (φs : List LFact) (hm : P.follows .mixedOrders = true) (hac : acycB l = true) (hd : dstsIn n l = true) (hnd : nodupB (dstsOf l) = true)
    (hk : (decide (k < l.length) && Region.sinkB .any l.toArray k && Region.chainB .any l.toArray k && Region.seqB .any l.toArray (l.length - k) k (Array.replicate k true ++ Array.replicate (l.length - k) false)) = true)
    (hops : Obls P l.toArray (dstsOf (l.take k)) (factAt φs) e w (l.take k) 0)
    (h : ∀ e' w', Ext w w' → (∀ s, (dstsOf (l.take k)).contains s = false → e' s = e s) → AllFacts (l.take k) (factAt φs) e' w' → OW P l.toArray Q (l.drop k) e' w') : CW P n (.region id l.toArray true) Q e w := by
  unfold CW
  intro a hs
  refine wp_region_any hm ?_
  simp only [Bool.and_eq_true, decide_eq_true_eq] at hk
  obtain ⟨⟨⟨hkl, hsink⟩, hchain⟩, hseq⟩ := hk
  have hd2 : dstsIn n (l.drop k) = true := by
    unfold dstsIn at hd ⊢
    rw [List.all_eq_true] at hd ⊢
    exact fun o ho => hd o (List.mem_of_mem_drop ho)
  have inv0 : Inv l.toArray n k (dstsOf (l.toArray.toList.take k)) (factAt φs) e w (Array.replicate l.toArray.size false) a { w with drawn := w.drawn + 1 } :=
    ⟨⟨by simp, fun j oj _ hl => (by rw [getD_replicate_false] at hl; cases hl), fun t _ ht => getD_in (by simpa using ht) (getD_replicate_false _ _)⟩, ⟨e, hs, fun _ _ => rfl, fun i o d _ _ hl => (by rw [getD_replicate_false] at hl; cases hl)⟩, Ext.drew' w⟩
  have := wpAny_heads (P := P) (ops := l.toArray) (g := l.length - k) (Q' := QA n Q) (n := n) (m := k) (Φ := factAt φs) (e0 := e) (w0 := w) (by simpa using hac) (by simp; omega) (by simpa using hd) (by simpa using hnd)
    (fun listed hI hu i hi => by
      have hex : ∃ j, j < k ∧ listed.getD j true = false := by
        unfold unl at hu
        obtain ⟨j, hj⟩ := List.exists_mem_of_length_pos hu
        rw [List.mem_filter, List.mem_range] at hj
        exact ⟨j, hj.1, by simpa using hj.2⟩
      obtain ⟨j, hj, hjun⟩ := hex
      rcases Nat.lt_or_ge i k with h1 | h1
      · exact h1
      · exact absurd hi (tail_waits hsink hchain (by simpa using hkl) hI _ j rfl hj hjun i h1))
    (fun i => factAt_last φs i) (fun i o hik ho => by have := hops.at_ i o (by rw [List.getElem?_take, if_pos hik]; simpa using ho); simpa using this)
    (fun listed a w' hI hu => by
      have hall := unl_zero hu
      have hsz := hI.head.size
      have hle : listed = Array.replicate k true ++ Array.replicate (l.length - k) false := by
        apply Array.ext
        · simp at hsz ⊢; omega
        · intro i h1 h2
          by_cases hik : i < k
          · have := hall i hik
            simp [h1] at this
            rw [Array.getElem_append_left (by simpa using hik)]
            simp [this]
          · have := hI.head.tail i (by omega) (by rw [hsz] at h1; exact h1)
            simp [h1] at this
            rw [Array.getElem_append_right (by simpa using hik)]
            simp [this]
      obtain ⟨e', hs', hout, hf⟩ := hI.st
      have hl : (l.drop k).length = l.length - k := by simp
      have hseq' : Region.seqB .any l.toArray (l.drop k).length k listed = true := by rw [hl, hle]; exact hseq
      have hdone := wpAny_of_seq (P := P) (md := .any) (ops := l.toArray) (Q' := QA n Q) (l.drop k) k listed a w' (fun j => by simp [List.getElem?_drop]) hseq'
        (wpList_of_OW _ hd2 hs' (h e' w' hI.ext (by simpa using hout) fun i d hid => by
          cases ho : (l.take k)[i]? with
          | none => rw [ho] at hid; cases hid
          | some o =>
            rw [ho] at hid
            have hlt : i < (l.take k).length := (List.getElem?_eq_some_iff.1 ho).1
            have hik : i < k := by simp at hlt; omega
            rw [List.getElem?_take, if_pos hik] at ho
            refine hf i o d (by simpa using ho) hid ?_
            have h1 := hall i hik
            have h2 : i < listed.size := by rw [hsz]; simp; omega
            simp [h2] at h1 ⊢
            exact h1))
      rwa [hl] at hdone)
    _ _ a _ (unl_replicate _ _ (by simp; omega)) inv0
  rw [show k + (l.length - k) = l.toArray.size by simp; omega] at this
  exact this
end
section
variable {P : Program} {ops : Array Oper} {ds : List Nat} {Φ : Nat → Fact} {e0 : Nat → Value} {w0 : World} {i : Nat} {d : Tmp} {op : Op} {ty : TypeId} {pos : String} {aft : Array Edge}
def keepsF (d : Tmp) (w : World) (φ : Fact) : Exit → (Nat → Value) → World → Prop := fun x e' w' => x = .normal ∧ Ext w w' ∧ φ (e' d) w'
/-- One operation's own duty, by a walk of that operation alone. -/
theorem Obl_of (h : ∀ e w, Known ops ds Φ e0 w0 ⟨some d, op, ty, pos, aft, none⟩ e w → OW P ops (keepsF d w (Φ i)) [⟨some d, op, ty, pos, aft, none⟩] e w) : Obl P ops ds Φ e0 w0 i ⟨some d, op, ty, pos, aft, none⟩ := by
  intro e w hk
  have hh := h e w hk
  rw [if_pos (by rfl)]
  unfold OW at hh
  rw [if_pos (by rfl)] at hh
  unfold opW at hh ⊢
  generalize (execOp (ev e) _).run P w = r at *
  cases r with
  | ok x w' =>
    cases x <;> simp only [opUpon] at hh <;> simp only [opUpon]
    case value u => unfold OW at hh; obtain ⟨_, h1, h2⟩ := hh; rw [show put e (some d) u = upd e d u from rfl, upd_same] at h2; exact ⟨h1, h2⟩
    case skip => unfold OW at hh; obtain ⟨_, h1, h2⟩ := hh; rw [show put e (some d) undef = upd e d undef from rfl, upd_same] at h2; exact ⟨h1, h2⟩
    case enter f args =>
      obtain ⟨rfl, hc⟩ := hh
      refine ⟨rfl, hc.mono fun en w'' hx => ?_⟩
      obtain ⟨u, he, hx⟩ := hx
      unfold OW at hx
      obtain ⟨_, h1, h2⟩ := hx
      rw [show put e (some d) u = upd e d u from rfl, upd_same] at h2
      exact ⟨u, he, h1, h2⟩
  | halt x w' => simp only [opUpon] at hh
/-- One that is guarded, and carried out. -/
theorem Obl_take {g : Nat × Bool} (hw : ∀ e w, Known ops ds Φ e0 w0 ⟨some d, op, ty, pos, aft, some g⟩ e w → wantedE ops e ⟨some d, op, ty, pos, aft, some g⟩ = true)
    (h : ∀ e w, Known ops ds Φ e0 w0 ⟨some d, op, ty, pos, aft, none⟩ e w → OW P ops (keepsF d w (Φ i)) [⟨some d, op, ty, pos, aft, none⟩] e w) : Obl P ops ds Φ e0 w0 i ⟨some d, op, ty, pos, aft, some g⟩ := by
  intro e w hk
  have := Obl_of h e w ⟨hk.ext, hk.out, hk.pre⟩
  rw [if_pos (by rfl)] at this
  rw [if_pos (hw e w hk)]
  unfold opW at this ⊢
  exact this
theorem Obl_pass {g : Nat × Bool} (hw : ∀ e w, Known ops ds Φ e0 w0 ⟨some d, op, ty, pos, aft, some g⟩ e w → wantedE ops e ⟨some d, op, ty, pos, aft, some g⟩ = false) (h : ∀ w, Φ i undef w) : Obl P ops ds Φ e0 w0 i ⟨some d, op, ty, pos, aft, some g⟩ := by
  intro e w hk
  rw [if_neg (by rw [hw e w hk]; simp)]
  exact h w
end
theorem keepsF_mk (e : Nat → Value) (d : Tmp) (v : Value) (w : World) : keepsF d w (isV v) .normal (upd e d v) w := ⟨rfl, Ext.rfl' w, upd_same _ _ _⟩
theorem keepsF_bs (e : Nat → Value) (d : Tmp) (A : Option Addr) (c : Nat) (l : List UInt8) (w w' : World) (hw : Ext w w') (hc : l.length ≤ c) (hb : Bs w' A l) : keepsF d w (isBs l) .normal (upd e d (.slice A l.length c)) w' := ⟨rfl, hw, A, c, upd_same _ _ _, hc, hb⟩
theorem keepsF_ext (e : Nat → Value) (d : Tmp) (v : Value) (w w' : World) (hw : Ext w w') : keepsF d w (isV v) .normal (upd e d v) w' := ⟨rfl, hw, upd_same _ _ _⟩
attribute [irreducible] Obl keepsF
end Go.Proofs.Ytdpomchhbbopbaa

/- Laws that add one to each byte of what they were told: what such a loop keeps. -/
namespace Go.Proofs.Ytdpomchhbbopbaa
open Go Go.RowKit
set_option linter.unusedVariables false
theorem inc_u8 (x : UInt8) : IntKind.u8.wrap ((x.toNat : Int) + 1) = ((x + 1).toNat : Int) := by
  rw [show (x.toNat : Int) + 1 = ((x.toNat + 1 : Nat) : Int) by omega, wrap_u8, UInt8.toNat_add]
  rfl
theorem grown_trans' {a b c : World} {row : Option Nat} (h : a.grownBy b row) (k : b.grownBy c row) : a.grownBy c row :=
  ⟨k.os.trans h.os, k.tape.trans h.tape, k.output.trans h.output, Nat.le_trans h.size k.size, fun i hi hne => (k.block i (Nat.lt_of_lt_of_le hi h.size) hne).trans (h.block i hi hne)⟩
theorem ext_grown {T : TypeId} {w0 wS wX : World} {v : Value} {n : Nat} {xs : List Value} (h : Ext w0 wS) (ho : wS.ownsRow w0.heap.size T 1 v n xs) (hg : wS.grownBy wX v.ownBlock) : Ext w0 wX :=
  Below.grown h hg h.size (fun k hk => (ho.lt k hk).1)
theorem keep_own {T : TypeId} {wS wX : World} {v1 v2 : Value} {n2 base2 : Nat} {xs2 : List Value} (h2 : wS.ownsRow base2 T 1 v2 n2 xs2) (hg : wS.grownBy wX v1.ownBlock) (hlt : ∀ k, v1.ownBlock = some k → k < base2) : wX.ownsRow base2 T 1 v2 n2 xs2 := by
  refine h2.kept hg ?_
  cases hv : v2.ownBlock with
  | none => exact .inl rfl
  | some k2 =>
    right
    intro h
    have h3 := h2.lt k2 hv
    have h4 := hlt k2 h.symm
    omega
theorem own_lt {T : TypeId} {w w' : World} {base : Nat} {v : Value} {n : Nat} {xs : List Value} (h : w.ownsRow base T 1 v n xs) (hw : Ext w w') : ∀ k, v.ownBlock = some k → k < w'.heap.size := fun k hk => by
  have := (h.lt k hk).2
  have := hw.size
  omega
theorem inc_cell {T : TypeId} {w : World} {base g n c k : Nat} {zs : List UInt8} (ho : w.ownsRow base T 1 (.slice (some ⟨g, 0, none⟩) n c) n (zs.map bv)) (hz : zs.length = n) (hk : k < n) : w.cell? ((⟨g, 0, none⟩ : Addr).add k) = some (bv (zs[k]'(by omega))) := by
  rw [add0, ho.cellAt k (by omega), List.getElem?_map, List.getElem?_eq_getElem (by omega)]
  rfl
theorem inc_step {T : TypeId} {w : World} {base g n c k : Nat} {zs : List UInt8} (ho : w.ownsRow base T 1 (.slice (some ⟨g, 0, none⟩) n c) n (zs.map bv)) (hz : zs.length = n) (hk : k < n) (x : UInt8) :
    (w.setCell ⟨g, k, none⟩ (bv x)).ownsRow base T 1 (.slice (some ⟨g, 0, none⟩) n c) n ((zs.set k x).map bv) ∧ w.grownBy (w.setCell ⟨g, k, none⟩ (bv x)) (some g) := by
  have := ho.stored k (bv x)
  rw [List.map_set]
  exact this
theorem Bs.cellAt {w : World} {ad : Addr} {l : List UInt8} (h : Bs w (some ad) l) (j : Nat) (hj : j < l.length) : w.cell? (ad.add j) = some (bv l[j]) := by
  obtain ⟨ad', ha, hc⟩ := h.at_ hj
  cases ha
  exact hc
theorem Bs.some_ {w : World} {A : Option Addr} {l : List UInt8} (h : Bs w A l) (hl : 0 < l.length) : ∃ ad, A = some ad := by
  obtain ⟨ad, ha, _⟩ := h.at_ hl
  exact ⟨ad, ha⟩
theorem bs_lit {w : World} {g : Nat} {T : TypeId} (l : List UInt8) (vs : List Value) (hb : Blk w g T vs.toArray) (he : vs = l.map bv) : Bs w (some ⟨g, 0, none⟩) l := by
  subst he
  unfold Bs
  simpa using hb.rd
theorem keepsF_bsN (e : Nat → Value) (d : Tmp) (A : Option Addr) (n c : Nat) (l : List UInt8) (w w' : World) (hn : l.length = n) (hw : Ext w w') (hc : n ≤ c) (hb : Bs w' A l) : keepsF d w (isBs l) .normal (upd e d (.slice A n c)) w' := by
  subst hn; exact keepsF_bs e d A c l w w' hw hc hb
/-- Where ways meet again. -/
theorem CW_cut {P : Program} {n : Nat} {c : Code} {K : (Nat → Value) → World → Prop} {Q : Exit → (Nat → Value) → World → Prop} {e : Nat → Value} {w : World} (J : (Nat → Value) → World → Prop) (h : CW P n c (thenE J Q) e w) (hk : ∀ e w, J e w → K e w) : CW P n c (thenE K Q) e w :=
  h.mono fun x e w hx => by
    cases x <;> unfold thenE at hx ⊢ <;> first | exact hk _ _ hx | exact hx
section
variable {P : Program} {ops : Array Oper} {Q : Exit → (Nat → Value) → World → Prop} {rest : List Oper} {e : Nat → Value} {w : World} {d : Tmp} {ty : TypeId} {pos : String} {aft : Array Edge}
/-- An index that is a literal. -/
theorem OW_idxL {x : Operand} {t el : TypeId} {ad : Addr} {n c : Nat} {k : IntKind} {j : Int} (jN : Nat) (ht : P.underlying t = some (.slice el)) (hel : OneT P el) (hx : ev e x = .slice (some ad) n c) (hj : j = (jN : Int)) (hn : jN < n)
    (h : OW P ops Q rest (upd e d (.pointer (some (ad.add jN)))) w) : OW P ops Q (⟨some d, .indexAddr t x (.const (.int k j)), ty, pos, aft, none⟩ :: rest) e w := OW_idxS (y := .const (.int k j)) ht hel hx rfl jN hj hn h
end
end Go.Proofs.Ytdpomchhbbopbaa

/- Lists of slices of bytes. -/
namespace Go.Proofs.Ytdpomchhbbopbaa
open Go Go.RowKit
/-- Slices of bytes, as values. -/
abbrev BV := Option Addr × Nat × List UInt8
def sv (x : BV) : Value := .slice x.1 x.2.2.length x.2.1
def flat (vs : List BV) : List UInt8 := (vs.map (·.2.2)).flatten
theorem flat_cons (x : BV) (vs : List BV) : flat (x :: vs) = x.2.2 ++ flat vs := by simp [flat]
theorem flat_nil : flat [] = [] := rfl
theorem flat_app (a b : List BV) : flat (a ++ b) = flat a ++ flat b := by simp [flat]
theorem flat_take_succ {vs : List BV} {k : Nat} (h : k < vs.length) : flat (vs.take (k + 1)) = flat (vs.take k) ++ (vs[k]).2.2 := by
  rw [List.take_succ_eq_append_getElem h, flat_app, flat_cons, flat_nil, List.append_nil]
theorem flat_le (vs : List BV) (k : Nat) : (flat (vs.take k)).length ≤ (flat vs).length := by
  have h := congrArg (fun l => (flat l).length) (List.take_append_drop k vs)
  simp only [flat_app, List.length_append] at h
  omega
end Go.Proofs.Ytdpomchhbbopbaa
