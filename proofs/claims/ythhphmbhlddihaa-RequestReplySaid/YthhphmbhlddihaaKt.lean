/- Data that comes in: plain types and lists of them. -/
import Derived.Test.YthhphmbhlddihaaKd
import Derived.Test.YthhphmbhlddihaaNum
import Derived.Test.YthhphmbhlddihaaShaT
namespace Go.Proofs.Ythhphmbhlddihaa
open Go Go.RowKit Go.ChangeShapes Go.WideShapes
set_option linter.unusedVariables false
theorem okWide_array {P : Program} {w : World} {r : Reach} {base : Nat} {t el : TypeId} {m : Nat} {v : Value} (ht : P.underlying t = some (.array m el)) (h : Value.okWide P w r base t v) : ∃ cs, v = .agg cs ∧ cs.size = P.cellsOf t := by
  simp only [Value.okWide, ht] at h
  obtain ⟨cs, h1, h2, _⟩ := h
  exact ⟨cs, h1, h2⟩
theorem kd_arr {P : Program} {t el : TypeId} {m : Nat} {α : Type} {H : Type} {enc : TypeId × Value → H} {w : World} {v : Value} {d : DataW H} {ps : List MemPlace} {r : Reach} {b0 : Nat} (k : KD P t α) (ht : P.underlying t = some (.array m el)) (hv : Value.okWide P w r b0 t v) (h : DataW.Trod enc P w 0 (fun _ => true) true t v d ps) (hw : WOk P t d) : ∃ cs a, v = .agg cs.toArray ∧ k.R w cs a := by
  obtain ⟨cs, rfl, hsz⟩ := okWide_array ht hv
  obtain ⟨fuel, hf⟩ := h
  obtain ⟨a, ha⟩ := k.opn hf hw
  exact ⟨cs.toList, a, by simp, ha⟩
def kI : KD Try.prog 3 Int := kInt und_int (by kernel_rfl)
def kB8 : KD Try.prog 5 UInt8 := kU8 und_u8 (by kernel_rfl)
def kBo : KD Try.prog 4 Bool := kBool und_bool (by kernel_rfl)
def kSt : KD Try.prog 9 ByteArray := kStr Try.underlying9 (by kernel_rfl)
def kBs : KD Try.prog 22 (List UInt8) := kBytes und_bytes und_u8 (by kernel_rfl) (by kernel_rfl) (of_decide_eq_true (by kernel_rfl))
def kTag : KD Try.prog 24 (List UInt8) := kArr s_und_Tag und_u8 (by kernel_rfl) (by kernel_rfl)
theorem und_ints : Try.prog.underlying 119 = some (.slice 3) := Try.underlying119
def kIs : KD Try.prog 119 (List Int) := kSlice kI und_ints (by kernel_rfl) (of_decide_eq_true (by kernel_rfl))
def kBss : KD Try.prog 115 (List (List UInt8)) := kSlice kBs und_bytess (by kernel_rfl) (of_decide_eq_true (by kernel_rfl))
/-- A slice of numbers. -/
def Is (w : World) (A : Option Addr) (l : List Int) : Prop := Rd w A (l.map iv)
theorem Is.ext {w w' : World} {A : Option Addr} {l : List Int} (h : Is w A l) (hx : Ext w w') : Is w' A l := Rd.ext h hx
theorem Is.at_ {w : World} {A : Option Addr} {l : List Int} (h : Is w A l) {j : Nat} (hj : j < l.length) : ∃ ad, A = some ad ∧ w.cell? (ad.add j) = some (.int .i64 l[j]) := by
  obtain ⟨ad, ha, hc⟩ := Rd.at_ h (j := j) (by simpa using hj)
  exact ⟨ad, ha, by simpa [iv] using hc⟩
theorem slr_one {w : World} {A : Option Addr} {α : Type} {R : World → List Value → α → Prop} {l : List α} (f : α → Value) (hf : ∀ cs a, R w cs a → cs = [f a]) (h : SlR 1 R w A l) : Rd w A (l.map f) := by
  intro j u hu
  have hj : j < l.length := by have := (List.getElem?_eq_some_iff.1 hu).1; simpa using this
  obtain ⟨ad, ce, e1, e2, e3, e4⟩ := h j hj
  have := hf _ _ e4
  subst this
  refine ⟨ad, e1, ?_⟩
  have h0 := e3 0 (f l[j]) rfl
  rw [addr_add_add, Nat.mul_one, Nat.add_zero] at h0
  rw [h0, ← hu, List.getElem?_map, List.getElem?_eq_getElem hj]
  rfl
theorem is_of {w : World} {A : Option Addr} {l : List Int} (h : SlR kI.n kI.R w A l) : Is w A l := slr_one iv (fun cs a hr => hr.1) h
theorem i64s_of {w : World} {A : Option Addr} {l : List Int} (h : SlR kI.n kI.R w A l) : ∀ n ∈ l, I64 n := fun n hn => by
  obtain ⟨i, hi, rfl⟩ := List.mem_iff_getElem.1 hn
  obtain ⟨ad, ce, e1, e2, e3, e4⟩ := h i hi
  exact e4.2
end Go.Proofs.Ythhphmbhlddihaa
