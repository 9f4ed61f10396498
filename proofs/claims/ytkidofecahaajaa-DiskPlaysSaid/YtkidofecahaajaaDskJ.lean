/- bytes.Join of some lists, off the shelf. -/
import Derived.Test.YtkidofecahaajaaDskT
import Derived.Shelf.Bytes.SlJoin
namespace Go.Proofs.Ytkidofecahaajaa
open Go Go.RowKit
set_option linter.unusedVariables false
set_option maxRecDepth 4000
def jRen : Go.Shelf.Ren := ⟨fun n => bif Nat.beq n 14 then 50 else 68, fun n => bif Nat.beq n 0 then 0 else bif Nat.beq n 3 then 3 else bif Nat.beq n 4 then 4 else bif Nat.beq n 5 then 5 else bif Nat.beq n 9 then 9 else bif Nat.beq n 20 then 20 else bif Nat.beq n 22 then 22 else 28, fun n => n⟩
theorem jLays : SlLaysJ.n14 Try.prog jRen where
  mixed := by kernel_rfl
  f14 := by kernel_rfl
  f15 := by kernel_rfl
  t0 := by kernel_rfl
  a0 := fun w => by kernel_rfl
  z0 := fun w => by kernel_rfl
  v0 := fun w => by kernel_rfl
  t3 := by kernel_rfl
  a3 := fun w => by kernel_rfl
  z3 := fun w => by kernel_rfl
  v3 := fun w => by kernel_rfl
  t4 := by kernel_rfl
  a4 := fun w => by kernel_rfl
  z4 := fun w => by kernel_rfl
  v4 := fun w => by kernel_rfl
  t9 := by kernel_rfl
  a9 := fun w => by kernel_rfl
  z9 := fun w => by kernel_rfl
  v9 := fun w => by kernel_rfl
  t20 := by kernel_rfl
  a20 := fun w => by kernel_rfl
  z20 := fun w => by kernel_rfl
  v20 := fun w => by kernel_rfl
  t22 := by kernel_rfl
  a22 := fun w => by kernel_rfl
  z22 := fun w => by kernel_rfl
  v22 := fun w => by kernel_rfl
  t26 := by kernel_rfl
  a26 := fun w => by kernel_rfl
  z26 := fun w => by kernel_rfl
  v26 := fun w => by kernel_rfl
  t5 := by kernel_rfl
  z5 := fun w => by kernel_rfl
  i5 := by kernel_rfl
theorem FreB.fresh {w' : World} {base : Nat} {v : Value} {l : List UInt8} (h : Lib.FreshBytes base w' v l) : ∃ A c, v = .slice A l.length c ∧ l.length ≤ c ∧ FreB w' base A l := by
  obtain ⟨g, cap, zs, hv, hb, hl, hm, hz, hr, ho, hc, hf⟩ := h
  have hcell : ∀ j (hj : j < l.length), w'.cell? ⟨g, j, none⟩ = some (bv l[j]) := fun j hj => by
    rw [hc j (by omega)]
    have hjz : j < zs.length := by omega
    have hx := hr zs[j] (List.getElem_mem hjz)
    have hlj : l[j] = UInt8.ofNat (zs[j]).toNat := by
      have := congrArg (fun l => l[j]?) ho
      simp only [Lib.bytesOf, List.getElem?_map, List.getElem?_take, if_pos hj, List.getElem?_eq_getElem hjz, List.getElem?_eq_getElem hj, Option.map_some, Option.some.injEq] at this
      exact this.symm
    rw [hlj, List.getD_eq_getElem?_getD, List.getElem?_eq_getElem hjz]
    show some (Value.int .u8 zs[j]) = some (Value.int .u8 _)
    rw [UInt8.toNat_ofNat']
    congr 2
    omega
  refine ⟨some ⟨g, 0, none⟩, cap, hv, hl, ⟨fun j u hu => ?_, fun ad ha hne => ?_, fun ad ha i hi => ?_⟩⟩
  · have hj : j < l.length := by have := (List.getElem?_eq_some_iff.1 hu).1; simpa using this
    refine ⟨_, rfl, ?_⟩
    rw [add0, hcell j hj, ← hu, List.getElem?_map, List.getElem?_eq_getElem hj]
    rfl
  · cases ha
    refine ⟨g, rfl, hb, ?_⟩
    exact World.block_lt_of_cell? w' ⟨g, 0, none⟩ (hcell 0 (List.length_pos_iff.2 hne))
  · cases ha
    rw [add0]
    exact hf i (by omega)
theorem join_flat : ∀ ls : List (List UInt8), Lib.join ls [] = ls.flatten
  | [] => rfl
  | x :: r => by
    rw [Lib.join_cons, List.flatten_cons]
    unfold Lib.joinTail
    congr 2
    simp
theorem lens_flat (ls : List (List UInt8)) : Lib.lens ls = ls.flatten.length := by unfold Lib.lens; rw [List.length_flatten]
theorem parts_of {w : World} {ad : Addr} {vs : List BV} (h : ArgL w (some ad) vs) : Lib.PartsAt w ad (vs.map sv) (vs.map pay) := by
  refine ⟨by simp, fun i v hv => ?_, fun i v l hv hl => ?_⟩
  · obtain ⟨ad', ha, hc⟩ := h.rd i v hv
    cases ha
    exact hc
  · rw [List.getElem?_map] at hv hl
    cases hvi : vs[i]? with
    | none => rw [hvi] at hv; cases hv
    | some x =>
      rw [hvi] at hv hl
      cases hv; cases hl
      have hx := (h.bs x (List.mem_of_getElem? hvi)).1
      refine ⟨x.1, x.2.1, rfl, fun hn => ?_, fun a ha j y hy => ?_⟩
      · by_cases hl : x.2.2 = []
        · exact hl
        · obtain ⟨a, ha, _⟩ := hx.at_ (j := 0) (List.length_pos_iff.2 hl)
          rw [hn] at ha; cases ha
      · obtain ⟨a', ha', hc⟩ := hx j (bv y) (by rw [List.getElem?_map, hy]; rfl)
        rw [ha] at ha'; cases ha'
        exact hc
/-- What Join tells. -/
def JoinP (w : World) (l : List UInt8) : Ending → World → Prop := fun en w' => ∃ A c, en = .returned (.slice A l.length c) ∧ l.length ≤ c ∧ FreB w' w.heap.size A l ∧ Ext w w'
theorem join_bytes (w : World) (b o n c : Nat) (vs : List BV) (h : ArgL w (some ⟨b, o, none⟩) vs) (hne : vs ≠ []) (hn : vs.length = n) (hc : n ≤ c) (hl : (vs.map pay).flatten.length ≤ 10000000) (hn2 : n ≤ 10000000) :
    Calls Try.prog 50 #[.slice (some ⟨b, o, none⟩) n c, .slice none 0 0] w (JoinP w (vs.map pay).flatten) := by
  subst hn
  have hP := parts_of h
  match vs, hne, h, hP with
  | [v], _, h, hP =>
    obtain ⟨ad, ha, hc0⟩ := h.cell (k := 0) (by simp)
    cases ha
    have hc0 : w.cell? ⟨b, o, none⟩ = some (.slice v.1 v.2.2.length v.2.1) := by simpa [Addr.add, sv] using hc0
    have hv := (h.bs v (by simp)).1
    have hf : ([v].map pay).flatten = v.2.2 := by simp
    rw [hf] at hl ⊢
    by_cases he : v.2.2 = []
    · rw [he] at hc0 ⊢
      refine (Any.bytes_Join_one_empty jLays b o c v.1 v.2.1 (.slice none 0 0) w hc0).mono ?_
      rintro en w' ⟨rfl, rfl⟩
      exact ⟨none, 0, rfl, Nat.le_refl _, ⟨Bs.nil _ _, fun ad h => (by cases h), fun ad h => (by cases h)⟩, Ext.rfl' _⟩
    · obtain ⟨a, ha, _⟩ := hv.at_ (j := 0) (List.length_pos_iff.2 he)
      rw [ha] at hc0 hv
      refine (Any.bytes_Join_one jLays b o c a v.2.1 v.2.2 (.slice none 0 0) w hc0 (fun i x hx => ?_) (List.length_pos_iff.2 he) (by omega)).mono ?_
      · obtain ⟨a', ha', hcc⟩ := hv i (bv x) (by rw [List.getElem?_map, hx]; rfl)
        cases ha'
        exact hcc
      · rintro en w' ⟨v', rfl, hf, hx⟩
        obtain ⟨A, c', rfl, h1, h2⟩ := FreB.fresh hf
        exact ⟨A, c', rfl, h1, h2, hx⟩
  | v :: u :: r, _, h, hP =>
    refine (Any.bytes_Join_many jLays b o (v :: u :: r).length c ((v :: u :: r).map sv) ((v :: u :: r).map pay) (.slice none 0 0) [] w (by simp) (by simp) hP hc ⟨none, 0, rfl, fun _ => rfl, fun a ha => by cases ha⟩ (by omega) ?_).mono ?_
    · rw [lens_flat]; simp only [List.length_nil, Nat.zero_mul]; omega
    · rintro en w' ⟨v', rfl, hf, hx⟩
      rw [join_flat] at hf
      obtain ⟨A, c', rfl, h1, h2⟩ := FreB.fresh hf
      exact ⟨A, c', rfl, h1, h2, hx⟩
end Go.Proofs.Ytkidofecahaajaa
