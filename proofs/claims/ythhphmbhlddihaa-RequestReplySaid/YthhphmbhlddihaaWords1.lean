/- Walks: the functions of package words and of the reference 01, from the leaves up. -/
import Derived.Test.YthhphmbhlddihaaTypes
import Derived.Test.YthhphmbhlddihaaPlain1
namespace Go.Proofs.Ythhphmbhlddihaa
open Go Go.RowKit
set_option linter.unusedVariables false

theorem go_Words1 {A B : Prop} (h : Held B → A := by
  intro hEnd
  repeat (first | refine OW_moveV (.int _ _) rfl ?_ | refine OW_moveV (.slice _ _ _) rfl ?_ | refine OW_moveV (.bool _) rfl ?_ | refine OW_moveV (.pointer _) rfl ?_ | refine OW_moveV (.string _) rfl ?_ | refine OW_moveV (.agg _) rfl ?_ | refine OW_moveV (.tuple _) rfl ?_ | refine OW_nil ?_ | refine thenE_normal ?_ | refine CW_seq ?_ | refine CW_region (by kernel_rfl) ?_ | refine OW_assignV (.int _ _) rfl ?_ | refine OW_assignV (.slice _ _ _) rfl ?_ | refine OW_assignV (.bool _) rfl ?_ | refine OW_assignV (.pointer _) rfl ?_ | refine OW_assignV (.string _) rfl ?_ | refine OW_assignV (.agg _) rfl ?_ | refine OW_assignV (.tuple _) rfl ?_ | refine OW_addI rfl rfl (by omega) ?_ | refine OW_subI rfl rfl (by omega) ?_ | refine OW_mulI rfl rfl (by omega) ?_ | refine OW_lss rfl rfl ?_ | refine OW_extract rfl rfl ?_ | refine OW_gtr rfl rfl ?_ | refine OW_leq rfl rfl ?_ | refine OW_geq rfl rfl ?_ | refine OW_eql rfl rfl ?_ | refine OW_neq rfl rfl ?_ | refine OW_not rfl ?_ | refine OW_pickT rfl _ rfl ?_ | refine OW_pickF rfl (.bool _) rfl ?_ | refine OW_pickB rfl rfl rfl ?_ | refine OW_move ?_ | refine OW_assign ?_ | refine OW_pass rfl ?_ | refine OW_take rfl ?_ | refine OW_lenS (by first | with_reducible exact und_bytes | with_reducible exact und_bytess) rfl ?_ | refine OW_convInt (by first | with_reducible exact und_u8 | with_reducible exact und_u64 | with_reducible exact und_int | with_reducible exact und_u32) (by first | with_reducible exact und_u8 | with_reducible exact und_u64 | with_reducible exact und_int | with_reducible exact und_u32) rfl ?_ | refine OW_add rfl rfl ?_ | refine OW_sub rfl rfl ?_ | refine OW_mul rfl rfl ?_ | refine OW_min2 rfl rfl ?_ | refine OW_max2 rfl rfl ?_ | refine OW_neg rfl ?_ | refine CW_block ?_ | refine CW_condT rfl ?_ | refine CW_condF rfl ?_ | refine CW_exit ?_ | refine CW_ret ?_ | refine CW_skip ?_ | refine LW_seq ?_ | refine LW_regC ?_ | refine LW_condC ?_ | refine LW_regF ?_ | refine LW_condF ?_ | refine FW_seq ?_ | refine FW_region (by kernel_rfl) ?_ | refine FW_block ?_ | refine FW_condT rfl ?_ | refine FW_condF rfl ?_ | refine FW_exit ?_ | refine FW_ret ?_ | refine FW_skip ?_ | refine LW_ret ?_ | refine LW_skip ?_ | refine thenE_exit ?_ | refine thenE_ret ?_ | refine inBlockE_normal ?_ | refine inBlockE_same ?_ | refine inBlockE_ret ?_ | refine inBlockE_ne (by rfl) ?_ | refine OW_eqlB (by with_reducible exact und_bool) rfl rfl ?_ | refine OW_neqB (by with_reducible exact und_bool) rfl rfl ?_ | refine OW_idxS (by with_reducible exact und_bytes) one_u8 rfl rfl _ rfl (by omega) ?_ | refine OW_idxS (by with_reducible exact und_bytess) one_bytes rfl rfl _ rfl (by omega) ?_ | refine OW_load1 (by first | with_reducible exact one_u8 | with_reducible exact one_bytes) rfl _ (by assumption) ?_)
  exact hEnd.out) (k : B) : A := h ⟨k⟩
theorem od_Words1 {A B : Prop} (h : Held B → A := by
  intro hEnd
  repeat (first
    | refine OD_pass rfl ?_
    | refine OD_take rfl ?_
    | (apply OD_step
       · intro wd hwd
         (first | refine OW_moveV (.int _ _) rfl ?_ | refine OW_moveV (.slice _ _ _) rfl ?_ | refine OW_moveV (.bool _) rfl ?_ | refine OW_moveV (.pointer _) rfl ?_ | refine OW_moveV (.string _) rfl ?_ | refine OW_moveV (.agg _) rfl ?_ | refine OW_moveV (.tuple _) rfl ?_ | refine OW_nil ?_ | refine thenE_normal ?_ | refine CW_seq ?_ | refine CW_region (by kernel_rfl) ?_ | refine OW_assignV (.int _ _) rfl ?_ | refine OW_assignV (.slice _ _ _) rfl ?_ | refine OW_assignV (.bool _) rfl ?_ | refine OW_assignV (.pointer _) rfl ?_ | refine OW_assignV (.string _) rfl ?_ | refine OW_assignV (.agg _) rfl ?_ | refine OW_assignV (.tuple _) rfl ?_ | refine OW_addI rfl rfl (by omega) ?_ | refine OW_subI rfl rfl (by omega) ?_ | refine OW_mulI rfl rfl (by omega) ?_ | refine OW_lss rfl rfl ?_ | refine OW_extract rfl rfl ?_ | refine OW_gtr rfl rfl ?_ | refine OW_leq rfl rfl ?_ | refine OW_geq rfl rfl ?_ | refine OW_eql rfl rfl ?_ | refine OW_neq rfl rfl ?_ | refine OW_not rfl ?_ | refine OW_pickT rfl _ rfl ?_ | refine OW_pickF rfl (.bool _) rfl ?_ | refine OW_pickB rfl rfl rfl ?_ | refine OW_move ?_ | refine OW_assign ?_ | refine OW_pass rfl ?_ | refine OW_take rfl ?_ | refine OW_lenS (by first | with_reducible exact und_bytes | with_reducible exact und_bytess) rfl ?_ | refine OW_convInt (by first | with_reducible exact und_u8 | with_reducible exact und_u64 | with_reducible exact und_int | with_reducible exact und_u32) (by first | with_reducible exact und_u8 | with_reducible exact und_u64 | with_reducible exact und_int | with_reducible exact und_u32) rfl ?_ | refine OW_add rfl rfl ?_ | refine OW_sub rfl rfl ?_ | refine OW_mul rfl rfl ?_ | refine OW_min2 rfl rfl ?_ | refine OW_max2 rfl rfl ?_ | refine OW_neg rfl ?_ | refine CW_block ?_ | refine CW_condT rfl ?_ | refine CW_condF rfl ?_ | refine CW_exit ?_ | refine CW_ret ?_ | refine CW_skip ?_ | refine LW_seq ?_ | refine LW_regC ?_ | refine LW_condC ?_ | refine LW_regF ?_ | refine LW_condF ?_ | refine FW_seq ?_ | refine FW_region (by kernel_rfl) ?_ | refine FW_block ?_ | refine FW_condT rfl ?_ | refine FW_condF rfl ?_ | refine FW_exit ?_ | refine FW_ret ?_ | refine FW_skip ?_ | refine LW_ret ?_ | refine LW_skip ?_ | refine thenE_exit ?_ | refine thenE_ret ?_ | refine inBlockE_normal ?_ | refine inBlockE_same ?_ | refine inBlockE_ret ?_ | refine inBlockE_ne (by rfl) ?_ | refine OW_eqlB (by with_reducible exact und_bool) rfl rfl ?_ | refine OW_neqB (by with_reducible exact und_bool) rfl rfl ?_ | refine OW_idxS (by with_reducible exact und_bytes) one_u8 rfl rfl _ rfl (by omega) ?_ | refine OW_idxS (by with_reducible exact und_bytess) one_bytes rfl rfl _ rfl (by omega) ?_ | refine OW_load1 (by first | with_reducible exact one_u8 | with_reducible exact one_bytes) rfl _ (by assumption) ?_ | refine OW_load1 (by with_reducible exact one_u8) rfl _ (by first | exact hwd.cell' (by assumption) | (subst hwd; assumption)) ?_)
         refine OW_nil ?_
         exact stay_mk _ _ _ _))
  exact hEnd.out) (k : B) : A := h ⟨k⟩
set_option maxHeartbeats 8000000 in
theorem refCat_any (w : World) (A B : Option Addr) (a b : List UInt8) (c c' : Nat) (ha : Bs w A a) (hb : Bs w B b) (hl : a.length + b.length ≤ 1000000) :
    Calls Try.prog 82 #[.slice A a.length c, .slice B b.length c'] w (RetBs 5 w (a ++ b)) := by
  refine calls_of_CW Try.func82 rfl (by simp [Try.ntmps82]) ?_
  rw [Try.ntmps82]
  refine go_Words1 (k := ?_)
  refine OW_append0 (base := w.heap.size) und_bytes info_u8 rfl rfl rfl ha (by simp) (bv_one _) (by unfold maxLen; omega) (by omega) (Nat.le_refl _) ?_
  intro w1 A1 c1 ho1 hb1
  refine go_Words1 (k := ?_)
  refine OW_append und_bytes info_u8 rfl rfl rfl ho1 (hb.ext hb1) (by simp) (bv_one _) (by unfold maxLen; omega) (by omega) hb1.size ?_
  intro w2 A2 c2 ho2 hb2
  refine go_Words1 (k := ?_)
  refine bodyE_ret1 rfl (.slice _ _ _) rfl ?_
  exact ⟨A2, c2, by simp, by simpa using ho2, hb1.trans hb2⟩

set_option maxHeartbeats 8000000 in
theorem refCopy_any (w : World) (A : Option Addr) (a : List UInt8) (c : Nat) (ha : Bs w A a) (hl : a.length ≤ 1000000) :
    Calls Try.prog 47 #[.slice A a.length c] w (RetBs 5 w a) := by
  refine calls_of_CW Try.func47 rfl (by simp [Try.ntmps47]) ?_
  rw [Try.ntmps47]
  refine go_Words1 (k := ?_)
  refine OW_callBs Try.func82 (by kernel_rfl) rfl (refCat_any w A none a [] c 0 ha (Bs.nil _ _) (by simpa using hl)) rfl ?_
  intro w1 A1 c1 h1
  rw [List.append_nil] at h1 ⊢
  refine go_Words1 (k := ?_)
  exact bodyE_ret1 rfl (.slice A1 a.length c1) rfl ⟨A1, c1, rfl, h1⟩

def sameUpTo (a b : List UInt8) (k : Nat) : Prop := ∀ j, j < k → a[j]? = b[j]?
theorem same_all {a b : List UInt8} (h : sameUpTo a b a.length) (hl : a.length = b.length) : a = b := by
  apply List.ext_getElem?
  intro j
  by_cases hj : j < a.length
  · exact h j hj
  · rw [List.getElem?_eq_none (by omega), List.getElem?_eq_none (by omega)]
theorem bv_inj {x y : UInt8} (h : (x.toNat : Int) = y.toNat) : x = y := UInt8.toNat_inj.1 (by omega)
set_option maxHeartbeats 8000000 in
theorem refSame_any (w : World) (A B : Option Addr) (a b : List UInt8) (c c' : Nat) (ha : Bs w A a) (hb : Bs w B b) (hl : a.length ≤ 1000000 ∧ b.length ≤ 1000000) :
    Calls Try.prog 44 #[.slice A a.length c, .slice B b.length c'] w (RetV w (.bool (a == b))) := by
  refine calls_of_CW Try.func44 rfl (by simp [Try.ntmps44]) ?_
  rw [Try.ntmps44]
  refine go_Words1 (k := ?_)
  refine CW_cond _ rfl (fun hne => ?_) (fun heq => ?_)
  · have hr : (a == b) = false := by
      rw [beq_eq_false_iff_ne]; rintro rfl; simp at hne
    refine go_Words1 (k := ?_)
    exact bodyE_ret1 rfl (.bool false) rfl ⟨by rw [hr], Ext.rfl' w⟩
  · have hlen : a.length = b.length := by simp at heq; omega
    refine go_Words1 (k := ?_)
    refine CW_loop (fun e' w' => ∃ k : Nat, k ≤ a.length ∧ e' 0 = .slice A a.length c ∧ e' 1 = .slice B b.length c' ∧ e' 5 = .int .i64 k ∧ sameUpTo a b k ∧ Ext w w') (fun e' _ => a.length - (intOf (e' 5)).toNat) ?_ ?_
    · exact ⟨0, Nat.zero_le _, rfl, rfl, rfl, fun j h => by omega, Ext.rfl' w⟩
    · rintro e' w' ⟨k, hk, e0, e1, e5, hs, hw⟩
      rw [upd_self e0, upd_self e1, upd_self e5]
      have hA := ha.ext hw
      have hB := hb.ext hw
      refine go_Words1 (k := ?_)
      refine CW_cond _ rfl (fun h => ?_) (fun h => ?_)
      · have hlt : k < a.length := by simpa using h
        obtain ⟨ad, hA1, hcA⟩ := hA.at_ hlt
        obtain ⟨bd, hB1, hcB⟩ := hB.at_ (show k < b.length by omega)
        subst hA1; subst hB1
        refine go_Words1 (k := ?_)
        refine CW_draw (by kernel_rfl) (by kernel_rfl) (by kernel_rfl) ?_
        refine od_Words1 (k := ?_)
        refine OD_nil ?_
        intro w1 hw1
        refine go_Words1 (k := ?_)
        refine CW_cond _ rfl (fun hne => ?_) (fun heq => ?_)
        · have hr : (a == b) = false := by
            rw [beq_eq_false_iff_ne]; rintro rfl; simp at hne
          refine go_Words1 (k := ?_)
          exact bodyE_ret1 rfl (.bool false) rfl ⟨by rw [hr], hw.trans' hw1⟩
        · have hx : a[k]'hlt = b[k]'(by omega) := bv_inj (by simpa using heq)
          refine go_Words1 (k := ?_)
          refine ⟨⟨k + 1, by omega, rfl, rfl, rfl, ?_, hw.trans' hw1⟩, ?_⟩
          · intro j hj
            by_cases hjk : j = k
            · subst hjk
              rw [List.getElem?_eq_getElem hlt, List.getElem?_eq_getElem (by omega), hx]
            · exact hs j (by omega)
          · show a.length - ((k : Int) + 1).toNat < a.length - (k : Int).toNat
            omega
      · have hge : k = a.length := by
          have : ¬ k < a.length := by simpa using h
          omega
        have hr : (a == b) = true := by
          rw [beq_iff_eq]; exact same_all (hge ▸ hs) hlen
        refine go_Words1 (k := ?_)
        exact bodyE_ret1 rfl (.bool true) rfl ⟨by rw [hr], hw⟩
end Go.Proofs.Ythhphmbhlddihaa
