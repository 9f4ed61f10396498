/- Walks: the Reader's Flag, Bytes, Text. -/
import Derived.Test.YthhphmbhlddihaaWireR2
namespace Go.Proofs.Ythhphmbhlddihaa
open Go Go.RowKit
set_option linter.unusedVariables false
set_option maxRecDepth 2000
theorem go_WireR3 {A B : Prop} (h : Held B → A := by
  intro hEnd
  repeat (first | refine OW_moveV (.int _ _) rfl ?_ | refine OW_moveV (.slice _ _ _) rfl ?_ | refine OW_moveV (.bool _) rfl ?_ | refine OW_moveV (.pointer _) rfl ?_ | refine OW_moveV (.string _) rfl ?_ | refine OW_moveV (.agg _) rfl ?_ | refine OW_moveV (.tuple _) rfl ?_ | refine OW_nil ?_ | refine thenE_normal ?_ | refine CW_seq ?_ | refine CW_region (by kernel_rfl) ?_ | refine OW_assignV (.int _ _) rfl ?_ | refine OW_assignV (.slice _ _ _) rfl ?_ | refine OW_assignV (.bool _) rfl ?_ | refine OW_assignV (.pointer _) rfl ?_ | refine OW_assignV (.string _) rfl ?_ | refine OW_assignV (.agg _) rfl ?_ | refine OW_assignV (.tuple _) rfl ?_ | refine OW_addI rfl rfl (by omega) ?_ | refine OW_subI rfl rfl (by omega) ?_ | refine OW_mulI rfl rfl (by omega) ?_ | refine OW_lss rfl rfl ?_ | refine OW_extract rfl rfl ?_ | refine OW_gtr rfl rfl ?_ | refine OW_leq rfl rfl ?_ | refine OW_geq rfl rfl ?_ | refine OW_eql rfl rfl ?_ | refine OW_neq rfl rfl ?_ | refine OW_not rfl ?_ | refine OW_pickT rfl _ rfl ?_ | refine OW_pickF rfl (.bool _) rfl ?_ | refine OW_pickB rfl rfl rfl ?_ | refine OW_move ?_ | refine OW_assign ?_ | refine OW_pass rfl ?_ | refine OW_take rfl ?_ | refine OW_lenS (by first | with_reducible exact und_bytes | with_reducible exact und_bytess) rfl ?_ | refine OW_convInt (by first | with_reducible exact und_u8 | with_reducible exact und_u64 | with_reducible exact und_int | with_reducible exact und_u32) (by first | with_reducible exact und_u8 | with_reducible exact und_u64 | with_reducible exact und_int | with_reducible exact und_u32) rfl ?_ | refine OW_add rfl rfl ?_ | refine OW_sub rfl rfl ?_ | refine OW_mul rfl rfl ?_ | refine OW_min2 rfl rfl ?_ | refine OW_max2 rfl rfl ?_ | refine OW_neg rfl ?_ | refine CW_block ?_ | refine CW_condT rfl ?_ | refine CW_condF rfl ?_ | refine CW_exit ?_ | refine CW_ret ?_ | refine CW_skip ?_ | refine LW_seq ?_ | refine LW_regC ?_ | refine LW_condC ?_ | refine LW_regF ?_ | refine LW_condF ?_ | refine FW_seq ?_ | refine FW_region (by kernel_rfl) ?_ | refine FW_block ?_ | refine FW_condT rfl ?_ | refine FW_condF rfl ?_ | refine FW_exit ?_ | refine FW_ret ?_ | refine FW_skip ?_ | refine LW_ret ?_ | refine LW_skip ?_ | refine thenE_exit ?_ | refine thenE_ret ?_ | refine inBlockE_normal ?_ | refine inBlockE_same ?_ | refine inBlockE_ret ?_ | refine inBlockE_ne (by rfl) ?_ | refine OW_eqlB (by with_reducible exact und_bool) rfl rfl ?_ | refine OW_neqB (by with_reducible exact und_bool) rfl rfl ?_ | refine OW_idxS (by with_reducible exact und_bytes) one_u8 rfl rfl _ rfl (by omega) ?_ | refine OW_idxS (by with_reducible exact und_bytess) one_bytes rfl rfl _ rfl (by omega) ?_ | refine OW_load1 (by first | with_reducible exact one_u8 | with_reducible exact one_bytes) rfl _ (by assumption) ?_)
  exact hEnd.out) (k : B) : A := h ⟨k⟩
set_option maxHeartbeats 8000000 in
theorem cFlag_any (w : World) (A : Option Addr) (b : UInt8) (hb : Bs w A [b]) : Calls Try.prog 65 #[.slice A 1 1] w (RetV w (.tuple #[.bool (decide ((b.toNat : Int) = 1)), .bool (decide ((b.toNat : Int) ≤ 1))])) := by
  obtain ⟨ad, hA, hc⟩ := hb 0 (bv b) rfl
  subst hA
  have hc : w.cell? (ad.add 0) = some (.int .u8 (b.toNat : Int)) := hc
  refine calls_of_CW Try.func65 rfl (by simp [Try.ntmps65]) ?_
  rw [Try.ntmps65]
  refine go_WireR3 (k := ?_)
  apply CW_any [vF _, vF (.pointer (some (ad.add 0))), vF _, vF _, vF _, vF (.pointer (some (ad.add 0))), vF _, vF _, vF _, vF _]
  case hm => kernel_rfl
  case hac => kernel_rfl
  case hd => kernel_rfl
  case hnd => kernel_rfl
  case hops =>
    refine ⟨?_, ?_⟩
    · refine Obl_of (fun e1 w1 hk => ?_)
      rw [upd_self (hk.out 0 rfl)]
      (first
       | refine OW_moveV (.int _ _) rfl ?_
       | refine OW_moveV (.slice _ _ _) rfl ?_
       | refine OW_moveV (.bool _) rfl ?_
       | refine OW_moveV (.pointer _) rfl ?_
       | refine OW_moveV (.string _) rfl ?_
       | refine OW_moveV (.agg _) rfl ?_
       | refine OW_moveV (.tuple _) rfl ?_
       | refine OW_nil ?_
       | refine thenE_normal ?_
       | refine CW_seq ?_
       | refine CW_region (by kernel_rfl) ?_
       | refine OW_assignV (.int _ _) rfl ?_
       | refine OW_assignV (.slice _ _ _) rfl ?_
       | refine OW_assignV (.bool _) rfl ?_
       | refine OW_assignV (.pointer _) rfl ?_
       | refine OW_assignV (.string _) rfl ?_
       | refine OW_assignV (.agg _) rfl ?_
       | refine OW_assignV (.tuple _) rfl ?_
       | refine OW_addI rfl rfl (by omega) ?_
       | refine OW_subI rfl rfl (by omega) ?_
       | refine OW_mulI rfl rfl (by omega) ?_
       | refine OW_lss rfl rfl ?_
       | refine OW_extract rfl rfl ?_
       | refine OW_gtr rfl rfl ?_
       | refine OW_leq rfl rfl ?_
       | refine OW_geq rfl rfl ?_
       | refine OW_eql rfl rfl ?_
       | refine OW_neq rfl rfl ?_
       | refine OW_not rfl ?_
       | refine OW_pickT rfl _ rfl ?_
       | refine OW_pickF rfl (.bool _) rfl ?_
       | refine OW_pickB rfl rfl rfl ?_
       | refine OW_move ?_
       | refine OW_assign ?_
       | refine OW_pass rfl ?_
       | refine OW_take rfl ?_
       | refine OW_lenS (by first | with_reducible exact und_bytes | with_reducible exact und_bytess) rfl ?_
       | refine OW_convInt (by first | with_reducible exact und_u8 | with_reducible exact und_u64 | with_reducible exact und_int | with_reducible exact und_u32) (by first | with_reducible exact und_u8 | with_reducible exact und_u64 | with_reducible exact und_int | with_reducible exact und_u32) rfl ?_
       | refine OW_add rfl rfl ?_
       | refine OW_sub rfl rfl ?_
       | refine OW_mul rfl rfl ?_
       | refine OW_min2 rfl rfl ?_
       | refine OW_max2 rfl rfl ?_
       | refine OW_neg rfl ?_
       | refine CW_block ?_
       | refine CW_condT rfl ?_
       | refine CW_condF rfl ?_
       | refine CW_exit ?_
       | refine CW_ret ?_
       | refine CW_skip ?_
       | refine LW_seq ?_
       | refine LW_regC ?_
       | refine LW_condC ?_
       | refine LW_regF ?_
       | refine LW_condF ?_
       | refine FW_seq ?_
       | refine FW_region (by kernel_rfl) ?_
       | refine FW_block ?_
       | refine FW_condT rfl ?_
       | refine FW_condF rfl ?_
       | refine FW_exit ?_
       | refine FW_ret ?_
       | refine FW_skip ?_
       | refine LW_ret ?_
       | refine LW_skip ?_
       | refine thenE_exit ?_
       | refine thenE_ret ?_
       | refine inBlockE_normal ?_
       | refine inBlockE_same ?_
       | refine inBlockE_ret ?_
       | refine inBlockE_ne (by rfl) ?_
       | refine OW_eqlB (by with_reducible exact und_bool) rfl rfl ?_
       | refine OW_neqB (by with_reducible exact und_bool) rfl rfl ?_
       | refine OW_idxS (by with_reducible exact und_bytes) one_u8 rfl rfl _ rfl (by omega) ?_
       | refine OW_idxS (by with_reducible exact und_bytess) one_bytes rfl rfl _ rfl (by omega) ?_
       | refine OW_load1 (by first | with_reducible exact one_u8 | with_reducible exact one_bytes) rfl _ (by assumption) ?_
       | refine OW_load1 (by with_reducible exact one_u8) rfl _ (hk.ext.cell' (by assumption)) ?_)
      refine OW_nil ?_
      exact keepsF_mk _ _ _ _
    refine ⟨?_, ?_⟩
    · refine Obl_of (fun e1 w1 hk => ?_)
      rw [upd_self (hk.pre 0 4 rfl rfl : isV _ _ _)]
      refine OW_idxL 0 und_bytes one_u8 rfl rfl (by decide) ?_
      refine OW_nil ?_
      exact keepsF_mk _ _ _ _
    refine ⟨?_, ?_⟩
    · refine Obl_of (fun e1 w1 hk => ?_)
      rw [upd_self (hk.pre 1 5 rfl rfl : isV _ _ _)]
      (first
       | refine OW_moveV (.int _ _) rfl ?_
       | refine OW_moveV (.slice _ _ _) rfl ?_
       | refine OW_moveV (.bool _) rfl ?_
       | refine OW_moveV (.pointer _) rfl ?_
       | refine OW_moveV (.string _) rfl ?_
       | refine OW_moveV (.agg _) rfl ?_
       | refine OW_moveV (.tuple _) rfl ?_
       | refine OW_nil ?_
       | refine thenE_normal ?_
       | refine CW_seq ?_
       | refine CW_region (by kernel_rfl) ?_
       | refine OW_assignV (.int _ _) rfl ?_
       | refine OW_assignV (.slice _ _ _) rfl ?_
       | refine OW_assignV (.bool _) rfl ?_
       | refine OW_assignV (.pointer _) rfl ?_
       | refine OW_assignV (.string _) rfl ?_
       | refine OW_assignV (.agg _) rfl ?_
       | refine OW_assignV (.tuple _) rfl ?_
       | refine OW_addI rfl rfl (by omega) ?_
       | refine OW_subI rfl rfl (by omega) ?_
       | refine OW_mulI rfl rfl (by omega) ?_
       | refine OW_lss rfl rfl ?_
       | refine OW_extract rfl rfl ?_
       | refine OW_gtr rfl rfl ?_
       | refine OW_leq rfl rfl ?_
       | refine OW_geq rfl rfl ?_
       | refine OW_eql rfl rfl ?_
       | refine OW_neq rfl rfl ?_
       | refine OW_not rfl ?_
       | refine OW_pickT rfl _ rfl ?_
       | refine OW_pickF rfl (.bool _) rfl ?_
       | refine OW_pickB rfl rfl rfl ?_
       | refine OW_move ?_
       | refine OW_assign ?_
       | refine OW_pass rfl ?_
       | refine OW_take rfl ?_
       | refine OW_lenS (by first | with_reducible exact und_bytes | with_reducible exact und_bytess) rfl ?_
       | refine OW_convInt (by first | with_reducible exact und_u8 | with_reducible exact und_u64 | with_reducible exact und_int | with_reducible exact und_u32) (by first | with_reducible exact und_u8 | with_reducible exact und_u64 | with_reducible exact und_int | with_reducible exact und_u32) rfl ?_
       | refine OW_add rfl rfl ?_
       | refine OW_sub rfl rfl ?_
       | refine OW_mul rfl rfl ?_
       | refine OW_min2 rfl rfl ?_
       | refine OW_max2 rfl rfl ?_
       | refine OW_neg rfl ?_
       | refine CW_block ?_
       | refine CW_condT rfl ?_
       | refine CW_condF rfl ?_
       | refine CW_exit ?_
       | refine CW_ret ?_
       | refine CW_skip ?_
       | refine LW_seq ?_
       | refine LW_regC ?_
       | refine LW_condC ?_
       | refine LW_regF ?_
       | refine LW_condF ?_
       | refine FW_seq ?_
       | refine FW_region (by kernel_rfl) ?_
       | refine FW_block ?_
       | refine FW_condT rfl ?_
       | refine FW_condF rfl ?_
       | refine FW_exit ?_
       | refine FW_ret ?_
       | refine FW_skip ?_
       | refine LW_ret ?_
       | refine LW_skip ?_
       | refine thenE_exit ?_
       | refine thenE_ret ?_
       | refine inBlockE_normal ?_
       | refine inBlockE_same ?_
       | refine inBlockE_ret ?_
       | refine inBlockE_ne (by rfl) ?_
       | refine OW_eqlB (by with_reducible exact und_bool) rfl rfl ?_
       | refine OW_neqB (by with_reducible exact und_bool) rfl rfl ?_
       | refine OW_idxS (by with_reducible exact und_bytes) one_u8 rfl rfl _ rfl (by omega) ?_
       | refine OW_idxS (by with_reducible exact und_bytess) one_bytes rfl rfl _ rfl (by omega) ?_
       | refine OW_load1 (by first | with_reducible exact one_u8 | with_reducible exact one_bytes) rfl _ (by assumption) ?_
       | refine OW_load1 (by with_reducible exact one_u8) rfl _ (hk.ext.cell' (by assumption)) ?_)
      refine OW_nil ?_
      exact keepsF_mk _ _ _ _
    refine ⟨?_, ?_⟩
    · refine Obl_of (fun e1 w1 hk => ?_)
      rw [upd_self (hk.pre 2 6 rfl rfl : isV _ _ _)]
      (first
       | refine OW_moveV (.int _ _) rfl ?_
       | refine OW_moveV (.slice _ _ _) rfl ?_
       | refine OW_moveV (.bool _) rfl ?_
       | refine OW_moveV (.pointer _) rfl ?_
       | refine OW_moveV (.string _) rfl ?_
       | refine OW_moveV (.agg _) rfl ?_
       | refine OW_moveV (.tuple _) rfl ?_
       | refine OW_nil ?_
       | refine thenE_normal ?_
       | refine CW_seq ?_
       | refine CW_region (by kernel_rfl) ?_
       | refine OW_assignV (.int _ _) rfl ?_
       | refine OW_assignV (.slice _ _ _) rfl ?_
       | refine OW_assignV (.bool _) rfl ?_
       | refine OW_assignV (.pointer _) rfl ?_
       | refine OW_assignV (.string _) rfl ?_
       | refine OW_assignV (.agg _) rfl ?_
       | refine OW_assignV (.tuple _) rfl ?_
       | refine OW_addI rfl rfl (by omega) ?_
       | refine OW_subI rfl rfl (by omega) ?_
       | refine OW_mulI rfl rfl (by omega) ?_
       | refine OW_lss rfl rfl ?_
       | refine OW_extract rfl rfl ?_
       | refine OW_gtr rfl rfl ?_
       | refine OW_leq rfl rfl ?_
       | refine OW_geq rfl rfl ?_
       | refine OW_eql rfl rfl ?_
       | refine OW_neq rfl rfl ?_
       | refine OW_not rfl ?_
       | refine OW_pickT rfl _ rfl ?_
       | refine OW_pickF rfl (.bool _) rfl ?_
       | refine OW_pickB rfl rfl rfl ?_
       | refine OW_move ?_
       | refine OW_assign ?_
       | refine OW_pass rfl ?_
       | refine OW_take rfl ?_
       | refine OW_lenS (by first | with_reducible exact und_bytes | with_reducible exact und_bytess) rfl ?_
       | refine OW_convInt (by first | with_reducible exact und_u8 | with_reducible exact und_u64 | with_reducible exact und_int | with_reducible exact und_u32) (by first | with_reducible exact und_u8 | with_reducible exact und_u64 | with_reducible exact und_int | with_reducible exact und_u32) rfl ?_
       | refine OW_add rfl rfl ?_
       | refine OW_sub rfl rfl ?_
       | refine OW_mul rfl rfl ?_
       | refine OW_min2 rfl rfl ?_
       | refine OW_max2 rfl rfl ?_
       | refine OW_neg rfl ?_
       | refine CW_block ?_
       | refine CW_condT rfl ?_
       | refine CW_condF rfl ?_
       | refine CW_exit ?_
       | refine CW_ret ?_
       | refine CW_skip ?_
       | refine LW_seq ?_
       | refine LW_regC ?_
       | refine LW_condC ?_
       | refine LW_regF ?_
       | refine LW_condF ?_
       | refine FW_seq ?_
       | refine FW_region (by kernel_rfl) ?_
       | refine FW_block ?_
       | refine FW_condT rfl ?_
       | refine FW_condF rfl ?_
       | refine FW_exit ?_
       | refine FW_ret ?_
       | refine FW_skip ?_
       | refine LW_ret ?_
       | refine LW_skip ?_
       | refine thenE_exit ?_
       | refine thenE_ret ?_
       | refine inBlockE_normal ?_
       | refine inBlockE_same ?_
       | refine inBlockE_ret ?_
       | refine inBlockE_ne (by rfl) ?_
       | refine OW_eqlB (by with_reducible exact und_bool) rfl rfl ?_
       | refine OW_neqB (by with_reducible exact und_bool) rfl rfl ?_
       | refine OW_idxS (by with_reducible exact und_bytes) one_u8 rfl rfl _ rfl (by omega) ?_
       | refine OW_idxS (by with_reducible exact und_bytess) one_bytes rfl rfl _ rfl (by omega) ?_
       | refine OW_load1 (by first | with_reducible exact one_u8 | with_reducible exact one_bytes) rfl _ (by assumption) ?_
       | refine OW_load1 (by with_reducible exact one_u8) rfl _ (hk.ext.cell' (by assumption)) ?_)
      refine OW_nil ?_
      exact keepsF_mk _ _ _ _
    refine ⟨?_, ?_⟩
    · refine Obl_of (fun e1 w1 hk => ?_)
      rw [upd_self (hk.out 0 rfl)]
      (first
       | refine OW_moveV (.int _ _) rfl ?_
       | refine OW_moveV (.slice _ _ _) rfl ?_
       | refine OW_moveV (.bool _) rfl ?_
       | refine OW_moveV (.pointer _) rfl ?_
       | refine OW_moveV (.string _) rfl ?_
       | refine OW_moveV (.agg _) rfl ?_
       | refine OW_moveV (.tuple _) rfl ?_
       | refine OW_nil ?_
       | refine thenE_normal ?_
       | refine CW_seq ?_
       | refine CW_region (by kernel_rfl) ?_
       | refine OW_assignV (.int _ _) rfl ?_
       | refine OW_assignV (.slice _ _ _) rfl ?_
       | refine OW_assignV (.bool _) rfl ?_
       | refine OW_assignV (.pointer _) rfl ?_
       | refine OW_assignV (.string _) rfl ?_
       | refine OW_assignV (.agg _) rfl ?_
       | refine OW_assignV (.tuple _) rfl ?_
       | refine OW_addI rfl rfl (by omega) ?_
       | refine OW_subI rfl rfl (by omega) ?_
       | refine OW_mulI rfl rfl (by omega) ?_
       | refine OW_lss rfl rfl ?_
       | refine OW_extract rfl rfl ?_
       | refine OW_gtr rfl rfl ?_
       | refine OW_leq rfl rfl ?_
       | refine OW_geq rfl rfl ?_
       | refine OW_eql rfl rfl ?_
       | refine OW_neq rfl rfl ?_
       | refine OW_not rfl ?_
       | refine OW_pickT rfl _ rfl ?_
       | refine OW_pickF rfl (.bool _) rfl ?_
       | refine OW_pickB rfl rfl rfl ?_
       | refine OW_move ?_
       | refine OW_assign ?_
       | refine OW_pass rfl ?_
       | refine OW_take rfl ?_
       | refine OW_lenS (by first | with_reducible exact und_bytes | with_reducible exact und_bytess) rfl ?_
       | refine OW_convInt (by first | with_reducible exact und_u8 | with_reducible exact und_u64 | with_reducible exact und_int | with_reducible exact und_u32) (by first | with_reducible exact und_u8 | with_reducible exact und_u64 | with_reducible exact und_int | with_reducible exact und_u32) rfl ?_
       | refine OW_add rfl rfl ?_
       | refine OW_sub rfl rfl ?_
       | refine OW_mul rfl rfl ?_
       | refine OW_min2 rfl rfl ?_
       | refine OW_max2 rfl rfl ?_
       | refine OW_neg rfl ?_
       | refine CW_block ?_
       | refine CW_condT rfl ?_
       | refine CW_condF rfl ?_
       | refine CW_exit ?_
       | refine CW_ret ?_
       | refine CW_skip ?_
       | refine LW_seq ?_
       | refine LW_regC ?_
       | refine LW_condC ?_
       | refine LW_regF ?_
       | refine LW_condF ?_
       | refine FW_seq ?_
       | refine FW_region (by kernel_rfl) ?_
       | refine FW_block ?_
       | refine FW_condT rfl ?_
       | refine FW_condF rfl ?_
       | refine FW_exit ?_
       | refine FW_ret ?_
       | refine FW_skip ?_
       | refine LW_ret ?_
       | refine LW_skip ?_
       | refine thenE_exit ?_
       | refine thenE_ret ?_
       | refine inBlockE_normal ?_
       | refine inBlockE_same ?_
       | refine inBlockE_ret ?_
       | refine inBlockE_ne (by rfl) ?_
       | refine OW_eqlB (by with_reducible exact und_bool) rfl rfl ?_
       | refine OW_neqB (by with_reducible exact und_bool) rfl rfl ?_
       | refine OW_idxS (by with_reducible exact und_bytes) one_u8 rfl rfl _ rfl (by omega) ?_
       | refine OW_idxS (by with_reducible exact und_bytess) one_bytes rfl rfl _ rfl (by omega) ?_
       | refine OW_load1 (by first | with_reducible exact one_u8 | with_reducible exact one_bytes) rfl _ (by assumption) ?_
       | refine OW_load1 (by with_reducible exact one_u8) rfl _ (hk.ext.cell' (by assumption)) ?_)
      refine OW_nil ?_
      exact keepsF_mk _ _ _ _
    refine ⟨?_, ?_⟩
    · refine Obl_of (fun e1 w1 hk => ?_)
      rw [upd_self (hk.pre 4 8 rfl rfl : isV _ _ _)]
      refine OW_idxL 0 und_bytes one_u8 rfl rfl (by decide) ?_
      refine OW_nil ?_
      exact keepsF_mk _ _ _ _
    refine ⟨?_, ?_⟩
    · refine Obl_of (fun e1 w1 hk => ?_)
      rw [upd_self (hk.pre 5 9 rfl rfl : isV _ _ _)]
      (first
       | refine OW_moveV (.int _ _) rfl ?_
       | refine OW_moveV (.slice _ _ _) rfl ?_
       | refine OW_moveV (.bool _) rfl ?_
       | refine OW_moveV (.pointer _) rfl ?_
       | refine OW_moveV (.string _) rfl ?_
       | refine OW_moveV (.agg _) rfl ?_
       | refine OW_moveV (.tuple _) rfl ?_
       | refine OW_nil ?_
       | refine thenE_normal ?_
       | refine CW_seq ?_
       | refine CW_region (by kernel_rfl) ?_
       | refine OW_assignV (.int _ _) rfl ?_
       | refine OW_assignV (.slice _ _ _) rfl ?_
       | refine OW_assignV (.bool _) rfl ?_
       | refine OW_assignV (.pointer _) rfl ?_
       | refine OW_assignV (.string _) rfl ?_
       | refine OW_assignV (.agg _) rfl ?_
       | refine OW_assignV (.tuple _) rfl ?_
       | refine OW_addI rfl rfl (by omega) ?_
       | refine OW_subI rfl rfl (by omega) ?_
       | refine OW_mulI rfl rfl (by omega) ?_
       | refine OW_lss rfl rfl ?_
       | refine OW_extract rfl rfl ?_
       | refine OW_gtr rfl rfl ?_
       | refine OW_leq rfl rfl ?_
       | refine OW_geq rfl rfl ?_
       | refine OW_eql rfl rfl ?_
       | refine OW_neq rfl rfl ?_
       | refine OW_not rfl ?_
       | refine OW_pickT rfl _ rfl ?_
       | refine OW_pickF rfl (.bool _) rfl ?_
       | refine OW_pickB rfl rfl rfl ?_
       | refine OW_move ?_
       | refine OW_assign ?_
       | refine OW_pass rfl ?_
       | refine OW_take rfl ?_
       | refine OW_lenS (by first | with_reducible exact und_bytes | with_reducible exact und_bytess) rfl ?_
       | refine OW_convInt (by first | with_reducible exact und_u8 | with_reducible exact und_u64 | with_reducible exact und_int | with_reducible exact und_u32) (by first | with_reducible exact und_u8 | with_reducible exact und_u64 | with_reducible exact und_int | with_reducible exact und_u32) rfl ?_
       | refine OW_add rfl rfl ?_
       | refine OW_sub rfl rfl ?_
       | refine OW_mul rfl rfl ?_
       | refine OW_min2 rfl rfl ?_
       | refine OW_max2 rfl rfl ?_
       | refine OW_neg rfl ?_
       | refine CW_block ?_
       | refine CW_condT rfl ?_
       | refine CW_condF rfl ?_
       | refine CW_exit ?_
       | refine CW_ret ?_
       | refine CW_skip ?_
       | refine LW_seq ?_
       | refine LW_regC ?_
       | refine LW_condC ?_
       | refine LW_regF ?_
       | refine LW_condF ?_
       | refine FW_seq ?_
       | refine FW_region (by kernel_rfl) ?_
       | refine FW_block ?_
       | refine FW_condT rfl ?_
       | refine FW_condF rfl ?_
       | refine FW_exit ?_
       | refine FW_ret ?_
       | refine FW_skip ?_
       | refine LW_ret ?_
       | refine LW_skip ?_
       | refine thenE_exit ?_
       | refine thenE_ret ?_
       | refine inBlockE_normal ?_
       | refine inBlockE_same ?_
       | refine inBlockE_ret ?_
       | refine inBlockE_ne (by rfl) ?_
       | refine OW_eqlB (by with_reducible exact und_bool) rfl rfl ?_
       | refine OW_neqB (by with_reducible exact und_bool) rfl rfl ?_
       | refine OW_idxS (by with_reducible exact und_bytes) one_u8 rfl rfl _ rfl (by omega) ?_
       | refine OW_idxS (by with_reducible exact und_bytess) one_bytes rfl rfl _ rfl (by omega) ?_
       | refine OW_load1 (by first | with_reducible exact one_u8 | with_reducible exact one_bytes) rfl _ (by assumption) ?_
       | refine OW_load1 (by with_reducible exact one_u8) rfl _ (hk.ext.cell' (by assumption)) ?_)
      refine OW_nil ?_
      exact keepsF_mk _ _ _ _
    refine ⟨?_, ?_⟩
    · refine Obl_of (fun e1 w1 hk => ?_)
      rw [upd_self (hk.pre 6 10 rfl rfl : isV _ _ _)]
      (first
       | refine OW_moveV (.int _ _) rfl ?_
       | refine OW_moveV (.slice _ _ _) rfl ?_
       | refine OW_moveV (.bool _) rfl ?_
       | refine OW_moveV (.pointer _) rfl ?_
       | refine OW_moveV (.string _) rfl ?_
       | refine OW_moveV (.agg _) rfl ?_
       | refine OW_moveV (.tuple _) rfl ?_
       | refine OW_nil ?_
       | refine thenE_normal ?_
       | refine CW_seq ?_
       | refine CW_region (by kernel_rfl) ?_
       | refine OW_assignV (.int _ _) rfl ?_
       | refine OW_assignV (.slice _ _ _) rfl ?_
       | refine OW_assignV (.bool _) rfl ?_
       | refine OW_assignV (.pointer _) rfl ?_
       | refine OW_assignV (.string _) rfl ?_
       | refine OW_assignV (.agg _) rfl ?_
       | refine OW_assignV (.tuple _) rfl ?_
       | refine OW_addI rfl rfl (by omega) ?_
       | refine OW_subI rfl rfl (by omega) ?_
       | refine OW_mulI rfl rfl (by omega) ?_
       | refine OW_lss rfl rfl ?_
       | refine OW_extract rfl rfl ?_
       | refine OW_gtr rfl rfl ?_
       | refine OW_leq rfl rfl ?_
       | refine OW_geq rfl rfl ?_
       | refine OW_eql rfl rfl ?_
       | refine OW_neq rfl rfl ?_
       | refine OW_not rfl ?_
       | refine OW_pickT rfl _ rfl ?_
       | refine OW_pickF rfl (.bool _) rfl ?_
       | refine OW_pickB rfl rfl rfl ?_
       | refine OW_move ?_
       | refine OW_assign ?_
       | refine OW_pass rfl ?_
       | refine OW_take rfl ?_
       | refine OW_lenS (by first | with_reducible exact und_bytes | with_reducible exact und_bytess) rfl ?_
       | refine OW_convInt (by first | with_reducible exact und_u8 | with_reducible exact und_u64 | with_reducible exact und_int | with_reducible exact und_u32) (by first | with_reducible exact und_u8 | with_reducible exact und_u64 | with_reducible exact und_int | with_reducible exact und_u32) rfl ?_
       | refine OW_add rfl rfl ?_
       | refine OW_sub rfl rfl ?_
       | refine OW_mul rfl rfl ?_
       | refine OW_min2 rfl rfl ?_
       | refine OW_max2 rfl rfl ?_
       | refine OW_neg rfl ?_
       | refine CW_block ?_
       | refine CW_condT rfl ?_
       | refine CW_condF rfl ?_
       | refine CW_exit ?_
       | refine CW_ret ?_
       | refine CW_skip ?_
       | refine LW_seq ?_
       | refine LW_regC ?_
       | refine LW_condC ?_
       | refine LW_regF ?_
       | refine LW_condF ?_
       | refine FW_seq ?_
       | refine FW_region (by kernel_rfl) ?_
       | refine FW_block ?_
       | refine FW_condT rfl ?_
       | refine FW_condF rfl ?_
       | refine FW_exit ?_
       | refine FW_ret ?_
       | refine FW_skip ?_
       | refine LW_ret ?_
       | refine LW_skip ?_
       | refine thenE_exit ?_
       | refine thenE_ret ?_
       | refine inBlockE_normal ?_
       | refine inBlockE_same ?_
       | refine inBlockE_ret ?_
       | refine inBlockE_ne (by rfl) ?_
       | refine OW_eqlB (by with_reducible exact und_bool) rfl rfl ?_
       | refine OW_neqB (by with_reducible exact und_bool) rfl rfl ?_
       | refine OW_idxS (by with_reducible exact und_bytes) one_u8 rfl rfl _ rfl (by omega) ?_
       | refine OW_idxS (by with_reducible exact und_bytess) one_bytes rfl rfl _ rfl (by omega) ?_
       | refine OW_load1 (by first | with_reducible exact one_u8 | with_reducible exact one_bytes) rfl _ (by assumption) ?_
       | refine OW_load1 (by with_reducible exact one_u8) rfl _ (hk.ext.cell' (by assumption)) ?_)
      refine OW_nil ?_
      exact keepsF_mk _ _ _ _
    refine ⟨?_, ?_⟩
    · refine Obl_of (fun e1 w1 hk => ?_)
      rw [upd_self (hk.pre 3 7 rfl rfl : isV _ _ _)]
      (first
       | refine OW_moveV (.int _ _) rfl ?_
       | refine OW_moveV (.slice _ _ _) rfl ?_
       | refine OW_moveV (.bool _) rfl ?_
       | refine OW_moveV (.pointer _) rfl ?_
       | refine OW_moveV (.string _) rfl ?_
       | refine OW_moveV (.agg _) rfl ?_
       | refine OW_moveV (.tuple _) rfl ?_
       | refine OW_nil ?_
       | refine thenE_normal ?_
       | refine CW_seq ?_
       | refine CW_region (by kernel_rfl) ?_
       | refine OW_assignV (.int _ _) rfl ?_
       | refine OW_assignV (.slice _ _ _) rfl ?_
       | refine OW_assignV (.bool _) rfl ?_
       | refine OW_assignV (.pointer _) rfl ?_
       | refine OW_assignV (.string _) rfl ?_
       | refine OW_assignV (.agg _) rfl ?_
       | refine OW_assignV (.tuple _) rfl ?_
       | refine OW_addI rfl rfl (by omega) ?_
       | refine OW_subI rfl rfl (by omega) ?_
       | refine OW_mulI rfl rfl (by omega) ?_
       | refine OW_lss rfl rfl ?_
       | refine OW_extract rfl rfl ?_
       | refine OW_gtr rfl rfl ?_
       | refine OW_leq rfl rfl ?_
       | refine OW_geq rfl rfl ?_
       | refine OW_eql rfl rfl ?_
       | refine OW_neq rfl rfl ?_
       | refine OW_not rfl ?_
       | refine OW_pickT rfl _ rfl ?_
       | refine OW_pickF rfl (.bool _) rfl ?_
       | refine OW_pickB rfl rfl rfl ?_
       | refine OW_move ?_
       | refine OW_assign ?_
       | refine OW_pass rfl ?_
       | refine OW_take rfl ?_
       | refine OW_lenS (by first | with_reducible exact und_bytes | with_reducible exact und_bytess) rfl ?_
       | refine OW_convInt (by first | with_reducible exact und_u8 | with_reducible exact und_u64 | with_reducible exact und_int | with_reducible exact und_u32) (by first | with_reducible exact und_u8 | with_reducible exact und_u64 | with_reducible exact und_int | with_reducible exact und_u32) rfl ?_
       | refine OW_add rfl rfl ?_
       | refine OW_sub rfl rfl ?_
       | refine OW_mul rfl rfl ?_
       | refine OW_min2 rfl rfl ?_
       | refine OW_max2 rfl rfl ?_
       | refine OW_neg rfl ?_
       | refine CW_block ?_
       | refine CW_condT rfl ?_
       | refine CW_condF rfl ?_
       | refine CW_exit ?_
       | refine CW_ret ?_
       | refine CW_skip ?_
       | refine LW_seq ?_
       | refine LW_regC ?_
       | refine LW_condC ?_
       | refine LW_regF ?_
       | refine LW_condF ?_
       | refine FW_seq ?_
       | refine FW_region (by kernel_rfl) ?_
       | refine FW_block ?_
       | refine FW_condT rfl ?_
       | refine FW_condF rfl ?_
       | refine FW_exit ?_
       | refine FW_ret ?_
       | refine FW_skip ?_
       | refine LW_ret ?_
       | refine LW_skip ?_
       | refine thenE_exit ?_
       | refine thenE_ret ?_
       | refine inBlockE_normal ?_
       | refine inBlockE_same ?_
       | refine inBlockE_ret ?_
       | refine inBlockE_ne (by rfl) ?_
       | refine OW_eqlB (by with_reducible exact und_bool) rfl rfl ?_
       | refine OW_neqB (by with_reducible exact und_bool) rfl rfl ?_
       | refine OW_idxS (by with_reducible exact und_bytes) one_u8 rfl rfl _ rfl (by omega) ?_
       | refine OW_idxS (by with_reducible exact und_bytess) one_bytes rfl rfl _ rfl (by omega) ?_
       | refine OW_load1 (by first | with_reducible exact one_u8 | with_reducible exact one_bytes) rfl _ (by assumption) ?_
       | refine OW_load1 (by with_reducible exact one_u8) rfl _ (hk.ext.cell' (by assumption)) ?_)
      refine OW_nil ?_
      exact keepsF_mk _ _ _ _
    refine ⟨?_, ?_⟩
    · refine Obl_of (fun e1 w1 hk => ?_)
      rw [upd_self (hk.pre 7 11 rfl rfl : isV _ _ _)]
      (first
       | refine OW_moveV (.int _ _) rfl ?_
       | refine OW_moveV (.slice _ _ _) rfl ?_
       | refine OW_moveV (.bool _) rfl ?_
       | refine OW_moveV (.pointer _) rfl ?_
       | refine OW_moveV (.string _) rfl ?_
       | refine OW_moveV (.agg _) rfl ?_
       | refine OW_moveV (.tuple _) rfl ?_
       | refine OW_nil ?_
       | refine thenE_normal ?_
       | refine CW_seq ?_
       | refine CW_region (by kernel_rfl) ?_
       | refine OW_assignV (.int _ _) rfl ?_
       | refine OW_assignV (.slice _ _ _) rfl ?_
       | refine OW_assignV (.bool _) rfl ?_
       | refine OW_assignV (.pointer _) rfl ?_
       | refine OW_assignV (.string _) rfl ?_
       | refine OW_assignV (.agg _) rfl ?_
       | refine OW_assignV (.tuple _) rfl ?_
       | refine OW_addI rfl rfl (by omega) ?_
       | refine OW_subI rfl rfl (by omega) ?_
       | refine OW_mulI rfl rfl (by omega) ?_
       | refine OW_lss rfl rfl ?_
       | refine OW_extract rfl rfl ?_
       | refine OW_gtr rfl rfl ?_
       | refine OW_leq rfl rfl ?_
       | refine OW_geq rfl rfl ?_
       | refine OW_eql rfl rfl ?_
       | refine OW_neq rfl rfl ?_
       | refine OW_not rfl ?_
       | refine OW_pickT rfl _ rfl ?_
       | refine OW_pickF rfl (.bool _) rfl ?_
       | refine OW_pickB rfl rfl rfl ?_
       | refine OW_move ?_
       | refine OW_assign ?_
       | refine OW_pass rfl ?_
       | refine OW_take rfl ?_
       | refine OW_lenS (by first | with_reducible exact und_bytes | with_reducible exact und_bytess) rfl ?_
       | refine OW_convInt (by first | with_reducible exact und_u8 | with_reducible exact und_u64 | with_reducible exact und_int | with_reducible exact und_u32) (by first | with_reducible exact und_u8 | with_reducible exact und_u64 | with_reducible exact und_int | with_reducible exact und_u32) rfl ?_
       | refine OW_add rfl rfl ?_
       | refine OW_sub rfl rfl ?_
       | refine OW_mul rfl rfl ?_
       | refine OW_min2 rfl rfl ?_
       | refine OW_max2 rfl rfl ?_
       | refine OW_neg rfl ?_
       | refine CW_block ?_
       | refine CW_condT rfl ?_
       | refine CW_condF rfl ?_
       | refine CW_exit ?_
       | refine CW_ret ?_
       | refine CW_skip ?_
       | refine LW_seq ?_
       | refine LW_regC ?_
       | refine LW_condC ?_
       | refine LW_regF ?_
       | refine LW_condF ?_
       | refine FW_seq ?_
       | refine FW_region (by kernel_rfl) ?_
       | refine FW_block ?_
       | refine FW_condT rfl ?_
       | refine FW_condF rfl ?_
       | refine FW_exit ?_
       | refine FW_ret ?_
       | refine FW_skip ?_
       | refine LW_ret ?_
       | refine LW_skip ?_
       | refine thenE_exit ?_
       | refine thenE_ret ?_
       | refine inBlockE_normal ?_
       | refine inBlockE_same ?_
       | refine inBlockE_ret ?_
       | refine inBlockE_ne (by rfl) ?_
       | refine OW_eqlB (by with_reducible exact und_bool) rfl rfl ?_
       | refine OW_neqB (by with_reducible exact und_bool) rfl rfl ?_
       | refine OW_idxS (by with_reducible exact und_bytes) one_u8 rfl rfl _ rfl (by omega) ?_
       | refine OW_idxS (by with_reducible exact und_bytess) one_bytes rfl rfl _ rfl (by omega) ?_
       | refine OW_load1 (by first | with_reducible exact one_u8 | with_reducible exact one_bytes) rfl _ (by assumption) ?_
       | refine OW_load1 (by with_reducible exact one_u8) rfl _ (hk.ext.cell' (by assumption)) ?_)
      refine OW_nil ?_
      exact keepsF_mk _ _ _ _
    trivial
  case h =>
    intro e1 w1 hw1 hout hall
    rw [upd_self (hall 8 2 rfl : isV _ _ _), upd_self (hall 9 3 rfl : isV _ _ _)]
    refine go_WireR3 (k := ?_)
    exact bodyE_ret2 rfl _ _ rfl rfl ⟨rfl, hw1⟩
set_option maxHeartbeats 8000000 in
theorem rFlag_any (w : World) (g : Nat) (S : Nat → Prop) (s : List UInt8 × Int) (h : RR w g S s) : Calls Try.prog 21 #[.pointer (some ⟨g, 0, none⟩)] w (RPost w g S (.bool (fits s 1 && decide (((s.1.headD 0).toNat : Int) = 1))) (stepS s 1 (decide (((s.1.headD 0).toNat : Int) ≤ 1)))) := by
  have T := take_bool w g S s h 1 (by omega) _ _ [] (fun _ v => v = .bool (decide (((s.1.headD 0).toNat : Int) = 1))) (decide (((s.1.headD 0).toNat : Int) ≤ 1)) Try.func65 (by kernel_rfl) rfl (fun _ _ _ _ _ h => h)
    (fun _ _ hl w1 A hx hb hlen => by
      have h1 : s.1.take (1 : Int).toNat = [s.1.headD 0] := by
        rw [one_of (l := s.1.take (1 : Int).toNat) hlen]
        cases s.1 <;> rfl
      rw [h1] at hb
      exact (cFlag_any w1 A _ hb).mono (fun en w' hh => ⟨_, hh.1, hh.2, rfl⟩))
  refine calls_of_CW Try.func21 rfl (by simp [Try.ntmps21]) ?_
  rw [Try.ntmps21]
  refine go_WireR3 (k := ?_)
  refine OW_callC Try.func64 (by kernel_rfl) rfl (T.mono (fun en w' hh => take_sum (v0 := .bool (fits s 1 && decide (((s.1.headD 0).toNat : Int) = 1))) (by
    by_cases hb : ((s.1.headD 0).toNat : Int) = 1
    · rw [decide_eq_true hb, decide_eq_true (show ((s.1.headD 0).toNat : Int) ≤ 1 by omega)]; cases fits s 1 <;> rfl
    · rw [decide_eq_false hb]; cases fits s 1 <;> cases decide (((s.1.headD 0).toNat : Int) ≤ 1) <;> rfl) hh)) rfl ?_
  rintro en w3 ⟨rfl, hr, hk⟩
  refine ⟨_, rfl, ?_⟩
  refine go_WireR3 (k := ?_)
  exact bodyE_ret1 rfl _ rfl ⟨rfl, hr, hk⟩

set_option maxHeartbeats 8000000 in
theorem cLen_any (w : World) (A : Option Addr) (l : List UInt8) (hb : Bs w A l) (hl : l.length = 4) : Calls Try.prog 66 #[.slice A 4 4] w (RetV w (.tuple #[.int .i64 (loadL l : Int), .bool (decide ((loadL l : Int) ≤ 65536))])) := by
  have T := load32_any w A l 4 0 hb (by omega) (by omega) (by omega)
  have hlt := ldV_lt l 0 4
  rw [ldV_all l 4 hl] at hlt
  rw [ldV_all l 4 hl, hl] at T
  refine calls_of_CW Try.func66 rfl (by simp [Try.ntmps66]) ?_
  rw [Try.ntmps66]
  refine go_WireR3 (k := ?_)
  refine OW_callV Try.func67 (by kernel_rfl) rfl T rfl ?_
  intro w1 hx
  refine go_WireR3 (k := ?_)
  rw [wrap_i64_of _ (by omega)]
  refine go_WireR3 (k := ?_)
  exact bodyE_ret2 rfl (.int .i64 (loadL l : Int)) (.bool (decide ((loadL l : Int) ≤ 65536))) rfl rfl ⟨rfl, hx⟩
set_option maxHeartbeats 8000000 in
theorem cCat_any (w : World) (A : Option Addr) (l : List UInt8) (c : Nat) (hb : Bs w A l) (hl : l.length ≤ 1000000) : Calls Try.prog 69 #[.slice A l.length c] w (fun en w' => ∃ A2 c2, en = .returned (.tuple #[.slice A2 l.length c2, .bool true]) ∧ Fresh 5 w w' A2 c2 l) := by
  refine calls_of_CW Try.func69 rfl (by simp [Try.ntmps69]) ?_
  rw [Try.ntmps69]
  refine go_WireR3 (k := ?_)
  refine OW_lit [sv (A, c, l)] (by with_reducible exact und_bytess) info_bytes rfl rfl (by simp [sv, Value.oneCell']) (by decide) ?_
  intro w2 g2 hb2 hg2 hx2
  refine go_WireR3 (k := ?_)
  refine OW_callBs Try.func33 (by kernel_rfl) rfl (cat_any w2 (some ⟨g2, 0, none⟩) 1 [(A, c, l)] (blk_rd _ hb2) (fun x hx => by
    rw [List.mem_singleton] at hx
    subst hx
    exact hb.ext hx2) (by simp) (by simp [flat]; omega)) rfl ?_
  intro w3 A3 c3 hf3
  have hfl : flat [(A, c, l)] = l := by simp [flat]
  rw [hfl] at hf3 ⊢
  refine go_WireR3 (k := ?_)
  exact bodyE_ret2 rfl (.slice A3 l.length c3) (.bool true) rfl rfl ⟨A3, c3, rfl, hf3.back hx2⟩
/-- How many bytes are to come; the reader behind that number; the bytes; the reader behind them. -/
def lenOk (s : List UInt8 × Int) : Bool := decide ((loadL (s.1.take 4) : Int) ≤ 65536)
def lenN (s : List UInt8 × Int) : Int := if fits s 4 && lenOk s then (loadL (s.1.take 4) : Int) else 0
def bytesV (s : List UInt8 × Int) : List UInt8 := if fits (stepS s 4 (lenOk s)) (lenN s) then (stepS s 4 (lenOk s)).1.take (lenN s).toNat else []
def bytesS (s : List UInt8 × Int) : List UInt8 × Int := stepS (stepS s 4 (lenOk s)) (lenN s) true
def RBytes (w : World) (g : Nat) (S : Nat → Prop) (l : List UInt8) (s : List UInt8 × Int) : Ending → World → Prop := fun en w' => ∃ A c, en = .returned (.slice A l.length c) ∧ w'.ownsRow w.heap.size 5 1 (.slice A l.length c) l.length (l.map bv) ∧ RR w' g S s ∧ Keeps w w' (· = g)
set_option maxHeartbeats 8000000 in
theorem rBytes_any (w : World) (g : Nat) (S : Nat → Prop) (s : List UInt8 × Int) (h : RR w g S s) : Calls Try.prog 22 #[.pointer (some ⟨g, 0, none⟩)] w (RBytes w g S (bytesV s) (bytesS s)) := by
  have hg : g < w.heap.size := h.bd _ h.in_
  have T := take_int w g S s h 4 (by omega) _ _ [] (fun _ v => v = .int .i64 (loadL (s.1.take 4) : Int)) (lenOk s) Try.func66 (by kernel_rfl) rfl (fun _ _ _ _ _ h => h)
    (fun _ _ hl w1 A hx hb hlen => (cLen_any w1 A _ hb hlen).mono (fun en w' hh => ⟨_, hh.1, hh.2, rfl⟩))
  refine calls_of_CW Try.func22 rfl (by simp [Try.ntmps22]) ?_
  rw [Try.ntmps22]
  refine go_WireR3 (k := ?_)
  refine OW_callC Try.func61 (by kernel_rfl) rfl (T.mono (fun en w' hh => take_sum (v0 := .int .i64 (lenN s)) (by unfold lenN; cases fits s 4 && lenOk s <;> rfl) hh)) rfl ?_
  rintro en w1 ⟨rfl, hr, hk⟩
  refine ⟨_, rfl, ?_⟩
  have hn : 0 ≤ lenN s ∧ lenN s ≤ 65536 := by
    unfold lenN
    split
    · rename_i hh
      have h2 := of_decide_eq_true (Bool.and_eq_true_iff.1 hh).2
      omega
    · omega
  have T2 := take_bytes w1 g S _ hr (lenN s) (by omega) _ _ [] (fun w' v => ∃ A c, v = .slice A ((stepS s 4 (lenOk s)).1.take (lenN s).toNat).length c ∧ w'.ownsRow w1.heap.size 5 1 v ((stepS s 4 (lenOk s)).1.take (lenN s).toNat).length (((stepS s 4 (lenOk s)).1.take (lenN s).toNat).map bv)) true Try.func69 (by kernel_rfl) rfl
    (fun u1 u2 v hk2 hsz hh => by
      obtain ⟨A, c, hv, ho⟩ := hh
      subst hv
      exact ⟨A, c, rfl, own_keeps ho hk2 (fun ad ha hb => by have h1 := (own_block ho ad ha).1; have h2 := hk.size; omega)⟩)
    (fun _ _ hl u1 A hx hb hlen => by
      have hc := cCat_any u1 A _ (lenN s).toNat hb (by omega)
      rw [hlen] at hc
      exact hc.mono (fun en w' hh => by
        obtain ⟨A2, c2, h1, h2⟩ := hh
        refine ⟨_, h1, h2.ext, A2, c2, by rw [hlen], ?_⟩
        have h3 := own_mono h2.own hx.size
        rw [hlen] at h3 ⊢
        exact h3))
  refine go_WireR3 (k := ?_)
  refine OW_callC Try.func68 (by kernel_rfl) rfl T2 rfl ?_
  rintro en w2 ⟨v, rfl, hk2, hh⟩
  refine ⟨_, rfl, ?_⟩
  have hkk := hk.trans' hk2
  refine go_WireR3 (k := ?_)
  have hf1 : fits (stepS s 4 (lenOk s)) (lenN s) = decide ((stepS s 4 (lenOk s)).2 = 0 ∧ 0 ≤ lenN s ∧ lenN s ≤ (stepS s 4 (lenOk s)).1.length) := rfl
  rcases hh with ⟨h1, h2, h3⟩ | ⟨h1, h2, h3, h4⟩ | ⟨_, _, _, h4, _⟩ | ⟨h1, h2, h3, h4, ⟨A, c, h5, h6⟩, h7⟩
  · subst h2
    have hv : bytesV s = [] := by unfold bytesV; rw [hf1, decide_eq_false (fun hh => h1 hh.1)]; rfl
    have hs : bytesS s = stepS s 4 (lenOk s) := by unfold bytesS; rw [stepS, if_pos h1]
    rw [hv, hs]
    exact bodyE_ret1 rfl (.slice none 0 0) rfl ⟨none, 0, rfl, World.ownsRow_nil _ _ _ _, h3, hkk⟩
  · subst h3
    have hv : bytesV s = [] := by unfold bytesV; rw [hf1, decide_eq_false (fun hh => by omega)]; rfl
    have hs : bytesS s = ([], 40) := by unfold bytesS; rw [stepS, if_neg (by simpa using h1), if_pos h2]
    rw [hv, hs]
    exact bodyE_ret1 rfl (.slice none 0 0) rfl ⟨none, 0, rfl, World.ownsRow_nil _ _ _ _, h4, hkk⟩
  · cases h4
  · subst h5
    have hv : bytesV s = (stepS s 4 (lenOk s)).1.take (lenN s).toNat := by unfold bytesV; rw [hf1, decide_eq_true ⟨h1, h2, h3⟩]; rfl
    have hs : bytesS s = ((stepS s 4 (lenOk s)).1.drop (lenN s).toNat, 0) := by unfold bytesS; rw [stepS, if_neg (by simpa using h1), if_neg (by omega)]; rfl
    rw [hv, hs]
    exact bodyE_ret1 rfl (.slice A _ c) rfl ⟨A, c, rfl, own_mono h6 hk.size, h7, hkk⟩
set_option maxHeartbeats 8000000 in
theorem rText_any (w : World) (g : Nat) (S : Nat → Prop) (s : List UInt8 × Int) (h : RR w g S s) : Calls Try.prog 23 #[.pointer (some ⟨g, 0, none⟩)] w (RPost w g S (.string ⟨(bytesV s).toArray⟩) (bytesS s)) := by
  refine calls_of_CW Try.func23 rfl (by simp [Try.ntmps23]) ?_
  rw [Try.ntmps23]
  refine go_WireR3 (k := ?_)
  refine OW_callC Try.func22 (by kernel_rfl) rfl (rBytes_any w g S s h) rfl ?_
  rintro en w1 ⟨A, c, rfl, ho, hr, hk⟩
  refine ⟨_, rfl, ?_⟩
  refine go_WireR3 (k := ?_)
  refine OW_strOf (by with_reducible exact und_bytes) und_u8 und_string (own_rd ho) rfl ?_
  refine go_WireR3 (k := ?_)
  exact bodyE_ret1 rfl _ rfl ⟨rfl, hr, hk⟩
end Go.Proofs.Ythhphmbhlddihaa
