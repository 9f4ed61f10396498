/- Walks: the Reader's own methods, each by what is read and what is left. -/
import Derived.Test.YthhphmbhlddihaaTakeByte
import Derived.Test.YthhphmbhlddihaaTakeInt
import Derived.Test.YthhphmbhlddihaaTakeBool
import Derived.Test.YthhphmbhlddihaaTakeBytes
namespace Go.Proofs.Ythhphmbhlddihaa
open Go Go.RowKit
set_option linter.unusedVariables false
set_option maxRecDepth 2000

theorem go_WireR2 {A B : Prop} (h : Held B → A := by
  intro hEnd
  repeat (first | refine OW_moveV (.int _ _) rfl ?_ | refine OW_moveV (.slice _ _ _) rfl ?_ | refine OW_moveV (.bool _) rfl ?_ | refine OW_moveV (.pointer _) rfl ?_ | refine OW_moveV (.string _) rfl ?_ | refine OW_moveV (.agg _) rfl ?_ | refine OW_moveV (.tuple _) rfl ?_ | refine OW_nil ?_ | refine thenE_normal ?_ | refine CW_seq ?_ | refine CW_region (by kernel_rfl) ?_ | refine OW_assignV (.int _ _) rfl ?_ | refine OW_assignV (.slice _ _ _) rfl ?_ | refine OW_assignV (.bool _) rfl ?_ | refine OW_assignV (.pointer _) rfl ?_ | refine OW_assignV (.string _) rfl ?_ | refine OW_assignV (.agg _) rfl ?_ | refine OW_assignV (.tuple _) rfl ?_ | refine OW_addI rfl rfl (by omega) ?_ | refine OW_subI rfl rfl (by omega) ?_ | refine OW_mulI rfl rfl (by omega) ?_ | refine OW_lss rfl rfl ?_ | refine OW_extract rfl rfl ?_ | refine OW_gtr rfl rfl ?_ | refine OW_leq rfl rfl ?_ | refine OW_geq rfl rfl ?_ | refine OW_eql rfl rfl ?_ | refine OW_neq rfl rfl ?_ | refine OW_not rfl ?_ | refine OW_pickT rfl _ rfl ?_ | refine OW_pickF rfl (.bool _) rfl ?_ | refine OW_pickB rfl rfl rfl ?_ | refine OW_move ?_ | refine OW_assign ?_ | refine OW_pass rfl ?_ | refine OW_take rfl ?_ | refine OW_lenS (by first | with_reducible exact und_bytes | with_reducible exact und_bytess) rfl ?_ | refine OW_convInt (by first | with_reducible exact und_u8 | with_reducible exact und_u64 | with_reducible exact und_int | with_reducible exact und_u32) (by first | with_reducible exact und_u8 | with_reducible exact und_u64 | with_reducible exact und_int | with_reducible exact und_u32) rfl ?_ | refine OW_add rfl rfl ?_ | refine OW_sub rfl rfl ?_ | refine OW_mul rfl rfl ?_ | refine OW_min2 rfl rfl ?_ | refine OW_max2 rfl rfl ?_ | refine OW_neg rfl ?_ | refine CW_block ?_ | refine CW_condT rfl ?_ | refine CW_condF rfl ?_ | refine CW_exit ?_ | refine CW_ret ?_ | refine CW_skip ?_ | refine LW_seq ?_ | refine LW_regC ?_ | refine LW_condC ?_ | refine LW_regF ?_ | refine LW_condF ?_ | refine FW_seq ?_ | refine FW_region (by kernel_rfl) ?_ | refine FW_block ?_ | refine FW_condT rfl ?_ | refine FW_condF rfl ?_ | refine FW_exit ?_ | refine FW_ret ?_ | refine FW_skip ?_ | refine LW_ret ?_ | refine LW_skip ?_ | refine thenE_exit ?_ | refine thenE_ret ?_ | refine inBlockE_normal ?_ | refine inBlockE_same ?_ | refine inBlockE_ret ?_ | refine inBlockE_ne (by rfl) ?_ | refine OW_eqlB (by with_reducible exact und_bool) rfl rfl ?_ | refine OW_neqB (by with_reducible exact und_bool) rfl rfl ?_ | refine OW_idxS (by with_reducible exact und_bytes) one_u8 rfl rfl _ rfl (by omega) ?_ | refine OW_idxS (by with_reducible exact und_bytess) one_bytes rfl rfl _ rfl (by omega) ?_ | refine OW_load1 (by first | with_reducible exact one_u8 | with_reducible exact one_bytes) rfl _ (by assumption) ?_ | refine OW_nilCheck rfl ?_ | refine OW_fieldF fld_R0 rfl ?_ | refine OW_fieldF fld_R1 rfl ?_ | refine OW_fieldF fld_R2 rfl ?_ | refine OW_idxL 0 (by with_reducible exact und_bytes) one_u8 rfl rfl (by decide) ?_)
  exact hEnd.out) (k : B) : A := h ⟨k⟩
/-- A reader after so many bytes, which were good or not. -/
def stepS (s : List UInt8 × Int) (n : Int) (ok : Bool) : List UInt8 × Int := if s.2 ≠ 0 then s else if n < 0 ∨ (s.1.length : Int) < n then ([], 40) else if ok then (s.1.drop n.toNat, 0) else ([], 40)
def fits (s : List UInt8 × Int) (n : Int) : Bool := decide (s.2 = 0 ∧ 0 ≤ n ∧ n ≤ s.1.length)
/-- What a reader's call comes to. -/
def RPost (w : World) (g : Nat) (S : Nat → Prop) (v : Value) (s : List UInt8 × Int) : Ending → World → Prop := fun en w' => en = .returned v ∧ RR w' g S s ∧ Keeps w w' (· = g)
theorem take_sum {w : World} {g : Nat} {S : Nat → Prop} {s : List UInt8 × Int} {n : Int} {ok : Bool} {zero x v0 : Value} {en : Ending} {w' : World} (hv : (if fits s n && ok then x else zero) = v0)
    (h : ∃ v, en = .returned v ∧ Keeps w w' (· = g) ∧ ((s.2 ≠ 0 ∧ v = zero ∧ RR w' g S s) ∨ (s.2 = 0 ∧ (n < 0 ∨ s.1.length < n) ∧ v = zero ∧ RR w' g S ([], 40)) ∨
       (s.2 = 0 ∧ 0 ≤ n ∧ n ≤ s.1.length ∧ ok = false ∧ v = zero ∧ RR w' g S ([], 40)) ∨ (s.2 = 0 ∧ 0 ≤ n ∧ n ≤ s.1.length ∧ ok = true ∧ v = x ∧ RR w' g S (s.1.drop n.toNat, 0)))) : RPost w g S v0 (stepS s n ok) en w' := by
  obtain ⟨v, he, hk, h | h | h | h⟩ := h
  · obtain ⟨h1, h2, h3⟩ := h
    subst h2
    have hf : fits s n = false := decide_eq_false fun hh => h1 hh.1
    rw [hf] at hv
    refine ⟨by rw [he, ← hv]; rfl, ?_, hk⟩
    unfold stepS; rw [if_pos h1]; exact h3
  · obtain ⟨h1, h2, h3, h4⟩ := h
    subst h3
    have hf : fits s n = false := decide_eq_false fun hh => by omega
    rw [hf] at hv
    refine ⟨by rw [he, ← hv]; rfl, ?_, hk⟩
    unfold stepS; rw [if_neg (by simpa using h1), if_pos h2]; exact h4
  · obtain ⟨h1, h2, h3, h4, h5, h6⟩ := h
    subst h4; subst h5
    rw [Bool.and_false] at hv
    refine ⟨by rw [he, ← hv]; rfl, ?_, hk⟩
    unfold stepS; rw [if_neg (by simpa using h1), if_neg (by omega)]; exact h6
  · obtain ⟨h1, h2, h3, h4, h5, h6⟩ := h
    subst h4; subst h5
    have hf : fits s n = true := decide_eq_true ⟨h1, h2, h3⟩
    rw [hf] at hv
    refine ⟨by rw [he, ← hv]; rfl, ?_, hk⟩
    unfold stepS; rw [if_neg (by simpa using h1), if_neg (by omega)]; exact h6

set_option maxHeartbeats 8000000 in
theorem cByte_any (w : World) (A : Option Addr) (b : UInt8) (hb : Bs w A [b]) : Calls Try.prog 60 #[.slice A 1 1] w (RetV w (.tuple #[bv b, .bool true])) := by
  obtain ⟨ad, hA, hc⟩ := hb 0 (bv b) rfl
  subst hA
  have hc : w.cell? (ad.add 0) = some (.int .u8 (b.toNat : Int)) := hc
  refine calls_of_CW Try.func60 rfl (by simp [Try.ntmps60]) ?_
  rw [Try.ntmps60]
  refine go_WireR2 (k := ?_)
  exact bodyE_ret2 rfl (bv b) (.bool true) rfl rfl ⟨rfl, Ext.rfl' w⟩
theorem one_of {l : List UInt8} (h : l.length = 1) : l = [l.headD 0] := by
  match l, h with
  | [x], _ => rfl
set_option maxHeartbeats 8000000 in
theorem rByte_any (w : World) (g : Nat) (S : Nat → Prop) (s : List UInt8 × Int) (h : RR w g S s) : Calls Try.prog 19 #[.pointer (some ⟨g, 0, none⟩)] w (RPost w g S (bv (if fits s 1 then s.1.headD 0 else 0)) (stepS s 1 true)) := by
  have T := take_byte w g S s h 1 (by omega) _ _ [] (fun _ v => v = bv (s.1.headD 0)) true Try.func60 (by kernel_rfl) rfl (fun _ _ _ _ _ h => h)
    (fun _ _ hl w1 A hx hb hlen => by
      have h1 : s.1.take (1 : Int).toNat = [s.1.headD 0] := by
        rw [one_of (l := s.1.take (1 : Int).toNat) hlen]
        cases s.1 <;> rfl
      rw [h1] at hb
      exact (cByte_any w1 A _ hb).mono (fun en w' hh => ⟨_, hh.1, hh.2, rfl⟩))
  refine calls_of_CW Try.func19 rfl (by simp [Try.ntmps19]) ?_
  rw [Try.ntmps19]
  refine go_WireR2 (k := ?_)
  refine OW_callC Try.func59 (by kernel_rfl) rfl (T.mono (fun en w' hh => take_sum (v0 := bv (if fits s 1 then s.1.headD 0 else 0)) (by rw [Bool.and_true]; cases fits s 1 <;> rfl) hh)) rfl ?_
  rintro en w3 ⟨rfl, hr, hk⟩
  refine ⟨_, rfl, ?_⟩
  refine go_WireR2 (k := ?_)
  exact bodyE_ret1 rfl _ rfl ⟨rfl, hr, hk⟩

theorem wrap_i64_of (n : Int) (h : -9223372036854775808 ≤ n ∧ n ≤ 9223372036854775807) : IntKind.i64.wrap n = n := by
  simp [IntKind.wrap, IntKind.signed, IntKind.bits]; omega
/-- The number of eight bytes, as an int. -/
def i64L (l : List UInt8) : Int := IntKind.i64.wrap (loadL l : Int)
theorem ldV_all (l : List UInt8) (n : Nat) (h : l.length = n) : ldV l 0 n = loadL l := by
  unfold ldV ldL
  rw [if_pos ⟨Int.le_refl 0, by rw [h]; simp⟩]
  simp [← h]
set_option maxHeartbeats 8000000 in
theorem cInt_any (w : World) (A : Option Addr) (l : List UInt8) (hb : Bs w A l) (hl : l.length = 8) : Calls Try.prog 62 #[.slice A 8 8] w (RetV w (.tuple #[.int .i64 (i64L l), .bool true])) := by
  have T := load64_any w A l 8 0 hb (by omega) (by omega) (by omega)
  rw [ldV_all l 8 hl, hl] at T
  refine calls_of_CW Try.func62 rfl (by simp [Try.ntmps62]) ?_
  rw [Try.ntmps62]
  refine go_WireR2 (k := ?_)
  refine OW_callV Try.func63 (by kernel_rfl) rfl T rfl ?_
  intro w1 hx
  refine go_WireR2 (k := ?_)
  exact bodyE_ret2 rfl (.int .i64 (i64L l)) (.bool true) rfl rfl ⟨rfl, hx⟩
set_option maxHeartbeats 8000000 in
theorem rInt_any (w : World) (g : Nat) (S : Nat → Prop) (s : List UInt8 × Int) (h : RR w g S s) : Calls Try.prog 20 #[.pointer (some ⟨g, 0, none⟩)] w (RPost w g S (.int .i64 (if fits s 8 then i64L (s.1.take 8) else 0)) (stepS s 8 true)) := by
  have T := take_int w g S s h 8 (by omega) _ _ [] (fun _ v => v = .int .i64 (i64L (s.1.take 8))) true Try.func62 (by kernel_rfl) rfl (fun _ _ _ _ _ h => h)
    (fun _ _ hl w1 A hx hb hlen => (cInt_any w1 A _ hb hlen).mono (fun en w' hh => ⟨_, hh.1, hh.2, rfl⟩))
  refine calls_of_CW Try.func20 rfl (by simp [Try.ntmps20]) ?_
  rw [Try.ntmps20]
  refine go_WireR2 (k := ?_)
  refine OW_callC Try.func61 (by kernel_rfl) rfl (T.mono (fun en w' hh => take_sum (v0 := .int .i64 (if fits s 8 then i64L (s.1.take 8) else 0)) (by rw [Bool.and_true]; cases fits s 8 <;> rfl) hh)) rfl ?_
  rintro en w3 ⟨rfl, hr, hk⟩
  refine ⟨_, rfl, ?_⟩
  refine go_WireR2 (k := ?_)
  exact bodyE_ret1 rfl _ rfl ⟨rfl, hr, hk⟩
end Go.Proofs.Ythhphmbhlddihaa
