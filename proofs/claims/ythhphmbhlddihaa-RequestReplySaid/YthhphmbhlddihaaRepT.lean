/- Replies that come in: their cells, what they are in bytes. -/
import Derived.Test.YthhphmbhlddihaaForm
import Derived.Test.YthhphmbhlddihaaOrd3
import Derived.Test.YthhphmbhlddihaaLitM
import Derived.Test.YthhphmbhlddihaaWireP
namespace Go.Proofs.Ythhphmbhlddihaa
open Go Go.RowKit Go.ChangeShapes Go.WideShapes
set_option linter.unusedVariables false
set_option maxRecDepth 4000
/-- A text. -/
def stv (l : List UInt8) : Value := .string ⟨l.toArray⟩
theorem stv_of (s : ByteArray) : Value.string s = stv s.data.toList := rfl
theorem und_strs : Try.prog.underlying 65 = some (.slice 9) := Try.underlying65
theorem one_str : OneT Try.prog 9 := ⟨.string ⟨#[]⟩, 16, by kernel_rfl, rfl, by kernel_rfl⟩
theorem one_strs : OneT Try.prog 65 := ⟨.slice none 0 0, 24, by kernel_rfl, rfl, by kernel_rfl⟩
section
variable {P : Program} {ops : Array Oper} {Q : Exit → (Nat → Value) → World → Prop} {rest : List Oper} {e : Nat → Value} {w : World} {d : Tmp} {ty : TypeId} {pos : String} {aft : Array Edge}
theorem OW_lenL {x : Operand} {t : TypeId} {l : List UInt8} (ht : P.underlying t = some .string) (hx : ev e x = stv l) (h : OW P ops Q rest (upd e d (.int .i64 l.length)) w) :
    OW P ops Q (⟨some d, .call { callee := .builtin .len, args := #[x], argTypes := #[t] }, ty, pos, aft, none⟩ :: rest) e w := OW_lenT ht hx h
end
def kStL : KD Try.prog 9 (List UInt8) where
  n := 1
  hn := kSt.hn
  R := fun _ cs l => cs = [stv l] ∧ l.length ≤ 140737488351232
  ext := fun _ h => h
  opn := fun h hw => by
    obtain ⟨s, h1, h2⟩ := kSt.opn h hw
    exact ⟨s.data.toList, h1, h2⟩
def kStrs : KD Try.prog 65 (List (List UInt8)) := kSlice kStL und_strs (by kernel_rfl) (of_decide_eq_true (by kernel_rfl))
theorem strs_of {w : World} {A : Option Addr} {l : List (List UInt8)} (h : SlR kStL.n kStL.R w A l) : Rd w A (l.map stv) := slr_one stv (fun cs a hr => hr.1) h
theorem strs_small {w : World} {A : Option Addr} {l : List (List UInt8)} (h : SlR kStL.n kStL.R w A l) : ∀ x ∈ l, x.length ≤ 140737488351232 := fun x hx => by
  obtain ⟨i, hi, rfl⟩ := List.mem_iff_getElem.1 hx
  obtain ⟨ad, ce, e1, e2, e3, e4⟩ := h i hi
  exact e4.2
def kEr : KD Try.prog 34 Int := kInt Try.underlying34 (by kernel_rfl)
/-- A link. -/
structure LK where
  n : Int
  stamp : Int
  op : UInt8
  ten : Int
  a : Int
  b : Int
  c : Int
  ahead : List UInt8
  self : List UInt8
def lcells (l : LK) : List Value := [.int .i64 l.n, .int .i64 l.stamp, bv l.op, .int .i64 l.ten, .int .i64 l.a, .int .i64 l.b, .int .i64 l.c] ++ (l.ahead.map bv ++ l.self.map bv)
structure LOk (l : LK) : Prop where
  ahead : l.ahead.length = 32
  self : l.self.length = 32
  i : I64 l.n ∧ I64 l.stamp ∧ I64 l.ten ∧ I64 l.a ∧ I64 l.b ∧ I64 l.c
theorem lcells_length {l : LK} (h : LOk l) : (lcells l).length = 71 := by simp [lcells, h.ahead, h.self]
def kLink : KD Try.prog 67 LK where
  n := 71
  hn := by kernel_rfl
  R := fun w cs l => cs = lcells l ∧ LOk l
  ext := fun hx h => h
  opn := fun {H enc w fuel cs x} h hw => by
    obtain ⟨hl, hp⟩ := kd_parts Try.underlying67 h hw
    have hl : cs.length = 71 := by rw [hl]; kernel_rfl
    obtain ⟨a0, h0, r0⟩ := hp 0 _ rfl kI
    obtain ⟨a1, h1, r1⟩ := hp 1 _ rfl kI
    obtain ⟨a2, h2⟩ := hp 2 _ rfl kB8
    obtain ⟨a3, h3, r3⟩ := hp 3 _ rfl kI
    obtain ⟨a4, h4, r4⟩ := hp 4 _ rfl kI
    obtain ⟨a5, h5, r5⟩ := hp 5 _ rfl kI
    obtain ⟨a6, h6, r6⟩ := hp 6 _ rfl kI
    obtain ⟨a7, h7, r7⟩ := hp 7 _ rfl kTag
    obtain ⟨a8, h8, r8⟩ := hp 8 _ rfl kTag
    have e0 : (cs.drop 0).take 1 = [.int .i64 a0] := h0
    have e1 : (cs.drop (0 + 1)).take 1 = [.int .i64 a1] := h1
    have e2 : (cs.drop (0 + 1 + 1)).take 1 = [bv a2] := h2
    have e3 : (cs.drop (0 + 1 + 1 + 1)).take 1 = [.int .i64 a3] := h3
    have e4 : (cs.drop (0 + 1 + 1 + 1 + 1)).take 1 = [.int .i64 a4] := h4
    have e5 : (cs.drop (0 + 1 + 1 + 1 + 1 + 1)).take 1 = [.int .i64 a5] := h5
    have e6 : (cs.drop (0 + 1 + 1 + 1 + 1 + 1 + 1)).take 1 = [.int .i64 a6] := h6
    have e7 : (cs.drop (0 + 1 + 1 + 1 + 1 + 1 + 1 + 1)).take 32 = a7.map bv := h7
    have e8 : (cs.drop (0 + 1 + 1 + 1 + 1 + 1 + 1 + 1 + 32)).take 32 = a8.map bv := h8
    have eN : cs.drop (0 + 1 + 1 + 1 + 1 + 1 + 1 + 1 + 32 + 32) = [] := List.drop_of_length_le (by omega)
    have := cut_cons cs 0 1
    rw [cut_cons cs (0 + 1) 1, cut_cons cs (0 + 1 + 1) 1, cut_cons cs (0 + 1 + 1 + 1) 1, cut_cons cs (0 + 1 + 1 + 1 + 1) 1, cut_cons cs (0 + 1 + 1 + 1 + 1 + 1) 1, cut_cons cs (0 + 1 + 1 + 1 + 1 + 1 + 1) 1, cut_cons cs (0 + 1 + 1 + 1 + 1 + 1 + 1 + 1) 32, cut_cons cs (0 + 1 + 1 + 1 + 1 + 1 + 1 + 1 + 32) 32, e0, e1, e2, e3, e4, e5, e6, e7, e8, eN, List.drop_zero] at this
    rw [this]
    refine ⟨⟨a0, a1, a2, a3, a4, a5, a6, a7, a8⟩, ?_, r7, r8, r0, r1, r3, r4, r5, r6⟩
    simp [lcells]
/-- A reply. -/
structure RP where
  err : Int
  value : List UInt8
  keys : List (List UInt8)
  n : Int
  link : LK
def rcells (r : RP) (v : Value) : List Value := [.int .i64 r.err, stv r.value, v, .int .i64 r.n] ++ lcells r.link
/-- A reply's own data, behind its place. -/
structure ROk (w : World) (r : RP) (A : Option Addr) (c : Nat) : Prop where
  ks : Rd w A (r.keys.map stv)
  kl : ∀ k ∈ r.keys, k.length ≤ 140737488351232
  cap : r.keys.length ≤ c ∧ c ≤ 140737488351232
  val : r.value.length ≤ 140737488351232
  i : I64 r.err ∧ I64 r.n
  l : LOk r.link
theorem ROk.ext {w w' : World} {r : RP} {A : Option Addr} {c : Nat} (h : ROk w r A c) (hx : Ext w w') : ROk w' r A c := ⟨h.ks.ext hx, h.kl, h.cap, h.val, h.i, h.l⟩
theorem rcells_length {r : RP} {v : Value} (h : LOk r.link) : (rcells r v).length = 75 := by simp [rcells, lcells_length h]
def kReply : KD Try.prog 69 RP where
  n := 75
  hn := by kernel_rfl
  R := fun w cs r => ∃ A c, cs = rcells r (.slice A r.keys.length c) ∧ ROk w r A c
  ext := fun hx ⟨A, c, h1, h2⟩ => ⟨A, c, h1, h2.ext hx⟩
  opn := fun {H enc w fuel cs x} h hw => by
    obtain ⟨hl, hp⟩ := kd_parts Try.underlying69 h hw
    have hl : cs.length = 75 := by rw [hl]; kernel_rfl
    obtain ⟨a0, h0, r0⟩ := hp 0 _ rfl kEr
    obtain ⟨a1, h1, r1⟩ := hp 1 _ rfl kStL
    obtain ⟨a2, A, c, h2, r2, r2', b2⟩ := hp 2 _ rfl kStrs
    obtain ⟨a3, h3, r3⟩ := hp 3 _ rfl kI
    obtain ⟨a4, h4, r4⟩ := hp 4 _ rfl kLink
    have e0 : (cs.drop 0).take 1 = [.int .i64 a0] := h0
    have e1 : (cs.drop (0 + 1)).take 1 = [stv a1] := h1
    have e2 : (cs.drop (0 + 1 + 1)).take 1 = [.slice A a2.length c] := h2
    have e3 : (cs.drop (0 + 1 + 1 + 1)).take 1 = [.int .i64 a3] := h3
    have e4 : (cs.drop (0 + 1 + 1 + 1 + 1)).take 71 = lcells a4 := h4
    have eN : cs.drop (0 + 1 + 1 + 1 + 1 + 71) = [] := List.drop_of_length_le (by omega)
    have := cut_cons cs 0 1
    rw [cut_cons cs (0 + 1) 1, cut_cons cs (0 + 1 + 1) 1, cut_cons cs (0 + 1 + 1 + 1) 1, cut_cons cs (0 + 1 + 1 + 1 + 1) 71, e0, e1, e2, e3, e4, eN, List.drop_zero] at this
    rw [this]
    refine ⟨⟨a0, a1, a2, a3, a4⟩, A, c, ?_, strs_of b2, strs_small b2, ⟨r2, r2'⟩, r1, ⟨r0, r3⟩, r4⟩
    simp [rcells]
end Go.Proofs.Ythhphmbhlddihaa
